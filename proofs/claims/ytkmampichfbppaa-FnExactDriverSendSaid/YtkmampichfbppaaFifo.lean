/- Queues: the ring in which the program holds one. -/
import Derived.Test.YtkmampichfbppaaBox
namespace Go.Proofs.Ytkmampichfbppaa
open Go.RowKit

def fifoB (room : Int) (xs : List Int) : Bool := decide (1 ≤ room ∧ room ≤ 16) && (decide ((xs.length : Int) ≤ room) && bytesB xs)
theorem fifoB_facts {room : Int} {xs : List Int} (h : fifoB room xs = true) : (1 ≤ room ∧ room ≤ 16) ∧ (xs.length : Int) ≤ room ∧ bytesB xs = true := by
  unfold fifoB at h
  simpa only [Bool.and_eq_true, decide_eq_true_eq] using h

theorem implFifoValid_any (room : Int) (ao : Option Addr) (xs : List Int) (c : Nat) (w : World) (hx : Ints w ao xs) (lx : xs.length ≤ 4611686018427387904) :
    Calls Try.prog 108 #[.agg #[.int .i64 room, .slice ao xs.length c]] w fun e w' => e = .returned (.bool (fifoB room xs)) ∧ Below w.heap.size w w' := by
  have b0 : Below w.heap.size w (w.alloc (.cells #[.int .i64 room, .slice ao xs.length c] 136)) := (Below.refl _ _).alloc (Nat.le_refl _) _
  have B0 := Lib.hid b0
  have hx0 := hx.below b0
  clear b0
  by_cases h1 : room < 1
  · have HF : Hid (fifoB room xs = false) := Lib.hid (by simp [fifoB]; omega)
    have hd : decide (1 ≤ room) = false := by simpa using h1
    go_enter Try.func108, Try.ntmps108
    go_wp2
    go_ret
    exact ⟨ret_bool HF.out.symm, B0.out⟩
  by_cases h2 : 16 < room
  · have HF : Hid (fifoB room xs = false) := Lib.hid (by simp [fifoB]; omega)
    have h1' : 1 ≤ room := by omega
    have hd : decide (room ≤ 16) = false := by simpa using h2
    clear h1
    go_enter Try.func108, Try.ntmps108
    go_wp2
    go_ret
    exact ⟨ret_bool HF.out.symm, B0.out⟩
  have h1' : 1 ≤ room := by omega
  have h2' : room ≤ 16 := by omega
  by_cases h3 : room < (xs.length : Int)
  · have HF : Hid (fifoB room xs = false) := Lib.hid (by simp [fifoB]; omega)
    have hd : decide ((xs.length : Int) ≤ room) = false := by simpa using h3
    clear h1 h2
    go_enter Try.func108, Try.ntmps108
    go_wp2
    go_ret
    exact ⟨ret_bool HF.out.symm, B0.out⟩
  have h3' : (xs.length : Int) ≤ room := by omega
  have HF : Hid (fifoB room xs = bytesB xs) := Lib.hid (by simp [fifoB, h1', h2', h3'])
  clear h1 h2 h3
  go_enter Try.func108, Try.ntmps108
  go_wp2_with fail
  refine (allBytes_any ao xs c _ hx0 lx).mono ?_
  rintro e w1 ⟨rfl, b1⟩
  go_wp2
  go_ret
  exact ⟨ret_bool HF.out.symm, below_join B0.out b1⟩



end Go.Proofs.Ytkmampichfbppaa
