/- Senders: validity, a byte is put. -/
import Derived.Test.YtkmampichfbppaaDoorFifo4
import Derived.Test.YtkmampichfbppaaDoorSend3
namespace Go.Proofs.YtkmampichfbppaaDoor
open Go.RowKit

def tailB (h l : Int) : Bool := if h = -1 then decide (l = 0) else (byteB h && decide (1 ≤ l ∧ l ≤ 3))
def sendVB (r : Int) (xs : List Int) (h l : Int) : Bool := fifoB r xs && tailB h l
theorem tailB_none (l : Int) : tailB (-1) l = decide (l = 0) := by simp [tailB]
theorem tailB_some {h l : Int} (hh : h ≠ -1) : tailB h l = (byteB h && decide (1 ≤ l ∧ l ≤ 3)) := by simp [tailB, hh]

theorem waiting_any (r : Int) (ao : Option Addr) (m c : Nat) (h l : Int) (w : World) :
    Calls Tryd.prog 30 #[.agg #[.int .i64 r, .slice ao m c, .int .i64 h, .int .i64 l]] w fun e w' => e = .returned (.agg #[.int .i64 r, .slice ao m c]) ∧ Below w.heap.size w w' := by
  go_enter Tryd.func30, Tryd.ntmps30
  go_wp2
  refine bodyPost_ret (v := .agg #[.int .i64 r, .slice ao m c]) (by simp [results, Tryd.results30, go_sem]) rfl ?_
  refine ⟨rfl, ?_⟩
  repeat' (first | exact Below.refl _ _ | exact Nat.le_refl _ | assumption | refine Below.drew ?_ | refine below_drewN ?_ _ | (refine Below.alloc ?_ (by first | exact Nat.le_refl _ | omega | (simp; done) | (simp; omega)) _) | (refine Below.setCell ?_ (by first | exact Nat.le_refl _ | omega | (simp; done) | (simp; omega)) _))

set_option maxHeartbeats 400000 in
theorem implSendValid_any (r : Int) (ao : Option Addr) (xs : List Int) (c : Nat) (h l : Int) (w : World) (hx : Ints w ao xs) (lx : xs.length ≤ 4611686018427387904) :
    Calls Tryd.prog 28 #[.agg #[.int .i64 r, .slice ao xs.length c, .int .i64 h, .int .i64 l]] w fun e w' => e = .returned (.bool (sendVB r xs h l)) ∧ Below w.heap.size w w' := by
  have b0 : Below w.heap.size w (w.alloc (.cells #[.int .i64 r, .slice ao xs.length c, .int .i64 h, .int .i64 l] 30)) := (Below.refl _ _).alloc (Nat.le_refl _) _
  have B0 := Lib.hid b0
  have hx0 := hx.below b0
  clear b0
  cases hv : fifoB r xs
  · have HF : Hid (sendVB r xs h l = false) := Lib.hid (by simp [sendVB, hv])
    go_enter Tryd.func28, Tryd.ntmps28
    go_wp2_with fail
    refine (waiting_any r ao xs.length c h l _).mono ?_
    rintro e w1 ⟨rfl, b1⟩
    go_wp2_with fail
    refine (implFifoValid_any r ao xs c w1 (hx0.below b1) lx).mono ?_
    rintro e w2 ⟨rfl, b2⟩
    go_wp2
    go_ret
    exact ⟨ret_bool HF.out.symm, below_join (below_join B0.out b1) b2⟩
  have HF : Hid (sendVB r xs h l = tailB h l) := Lib.hid (by simp [sendVB, hv])
  by_cases hh : h = -1
  · subst hh
    go_enter Tryd.func28, Tryd.ntmps28
    go_wp2_with fail
    refine (waiting_any r ao xs.length c (-1) l _).mono ?_
    rintro e w1 ⟨rfl, b1⟩
    go_wp2_with fail
    refine (implFifoValid_any r ao xs c w1 (hx0.below b1) lx).mono ?_
    rintro e w2 ⟨rfl, b2⟩
    have HA := (b2.block _ (by have := b1.size; simp at this; omega)).trans ((b1.block _ (by simp)).trans (heap_new_at w (.cells #[.int .i64 r, .slice ao xs.length c, .int .i64 (-1), .int .i64 l] 30) _ rfl))
    obtain ⟨c0, c1, c2, c3⟩ := cells4 HA
    clear HA
    go_wp2
    go_ret
    exact ⟨ret_bool (by rw [HF.out, tailB_none, Bool.eq_iff_iff]; simp), below_join (below_join B0.out b1) b2⟩
  have hb : (h == -1) = false := by simpa using hh
  have HT := Lib.hid (tailB_some (l := l) hh)
  clear hh
  cases hby : byteB h
  · go_enter Tryd.func28, Tryd.ntmps28
    go_wp2_with fail
    refine (waiting_any r ao xs.length c h l _).mono ?_
    rintro e w1 ⟨rfl, b1⟩
    go_wp2_with fail
    refine (implFifoValid_any r ao xs c w1 (hx0.below b1) lx).mono ?_
    rintro e w2 ⟨rfl, b2⟩
    have HA := (b2.block _ (by have := b1.size; simp at this; omega)).trans ((b1.block _ (by simp)).trans (heap_new_at w (.cells #[.int .i64 r, .slice ao xs.length c, .int .i64 h, .int .i64 l] 30) _ rfl))
    obtain ⟨c0, c1, c2, c3⟩ := cells4 HA
    clear HA
    go_wp2_with fail
    refine (isByte_any h w2).mono ?_
    rintro e w3 ⟨rfl, rfl⟩
    go_wp2
    go_ret
    exact ⟨ret_bool (by rw [HF.out, HT.out, hby]; rfl), below_join (below_join B0.out b1) b2⟩
  · go_enter Tryd.func28, Tryd.ntmps28
    go_wp2_with fail
    refine (waiting_any r ao xs.length c h l _).mono ?_
    rintro e w1 ⟨rfl, b1⟩
    go_wp2_with fail
    refine (implFifoValid_any r ao xs c w1 (hx0.below b1) lx).mono ?_
    rintro e w2 ⟨rfl, b2⟩
    have HA := (b2.block _ (by have := b1.size; simp at this; omega)).trans ((b1.block _ (by simp)).trans (heap_new_at w (.cells #[.int .i64 r, .slice ao xs.length c, .int .i64 h, .int .i64 l] 30) _ rfl))
    obtain ⟨c0, c1, c2, c3⟩ := cells4 HA
    clear HA
    go_wp2_with fail
    refine (isByte_any h w2).mono ?_
    rintro e w3 ⟨rfl, rfl⟩
    go_wp2
    all_goals
      go_ret
      exact ⟨ret_bool (by rw [HF.out, HT.out, hby, Bool.eq_iff_iff]; simp <;> omega), below_join (below_join B0.out b1) b2⟩

set_option maxHeartbeats 400000 in
theorem specSendValid_any (r : Int) (ao : Option Addr) (xs : List Int) (c : Nat) (h l : Int) (w : World) (hx : Ints w ao xs) (lx : xs.length ≤ 4611686018427387904) :
    Calls Tryd.prog 42 #[.agg #[.int .i64 r, .slice ao xs.length c, .int .i64 h, .int .i64 l]] w fun e w' => e = .returned (.bool (sendVB r xs h l)) ∧ Below w.heap.size w w' := by
  have b0 : Below w.heap.size w (w.alloc (.cells #[.int .i64 r, .slice ao xs.length c, .int .i64 h, .int .i64 l] 30)) := (Below.refl _ _).alloc (Nat.le_refl _) _
  have B0 := Lib.hid b0
  have hx0 := hx.below b0
  clear b0
  cases h1 : inB r 1 16
  · have HF : Hid (sendVB r xs h l = false) := Lib.hid (by
      have : ¬ (1 ≤ r ∧ r ≤ 16) := by simpa [inB] using h1
      simp [sendVB, fifoB]; omega)
    go_enter Tryd.func42, Tryd.ntmps42
    go_wp2_with fail
    refine (l6In_any r 1 16 _).mono ?_
    rintro e w1 ⟨rfl, rfl⟩
    go_wp2
    go_ret
    exact ⟨ret_bool HF.out.symm, B0.out⟩
  have hr : 1 ≤ r ∧ r ≤ 16 := by simpa [inB] using h1
  by_cases h3 : r < (xs.length : Int)
  · have HF : Hid (sendVB r xs h l = false) := Lib.hid (by simp [sendVB, fifoB]; omega)
    clear hr
    go_enter Tryd.func42, Tryd.ntmps42
    go_wp2_with fail
    refine (l6In_any r 1 16 _).mono ?_
    rintro e w1 ⟨rfl, rfl⟩
    go_wp2
    go_ret
    exact ⟨ret_bool HF.out.symm, B0.out⟩
  have h3' : (xs.length : Int) ≤ r := by omega
  have h3d : decide (r < (xs.length : Int)) = false := by simpa using h3'
  clear h3
  cases hby : bytesB xs
  · have HF : Hid (sendVB r xs h l = false) := Lib.hid (by simp [sendVB, fifoB, hby])
    clear hr
    go_enter Tryd.func42, Tryd.ntmps42
    go_wp2_with fail
    refine (l6In_any r 1 16 _).mono ?_
    rintro e w1 ⟨rfl, rfl⟩
    go_wp2_with fail
    refine (l4Bytes_any ao xs c _ hx0 lx).mono ?_
    rintro e w1 ⟨rfl, b1⟩
    go_wp2
    go_ret
    exact ⟨ret_bool HF.out.symm, below_join B0.out b1⟩
  have HF : Hid (sendVB r xs h l = tailB h l) := Lib.hid (by simp [sendVB, fifoB, hby, hr.1, hr.2, h3'])
  clear hr
  by_cases hh : h = -1
  · subst hh
    go_enter Tryd.func42, Tryd.ntmps42
    go_wp2_with fail
    refine (l6In_any r 1 16 _).mono ?_
    rintro e w1 ⟨rfl, rfl⟩
    go_wp2_with fail
    refine (l4Bytes_any ao xs c _ hx0 lx).mono ?_
    rintro e w1 ⟨rfl, b1⟩
    have HA := (b1.block _ (by simp)).trans (heap_new_at w (.cells #[.int .i64 r, .slice ao xs.length c, .int .i64 (-1), .int .i64 l] 30) _ rfl)
    obtain ⟨c0, c1, c2, c3⟩ := cells4 HA
    clear HA
    go_wp2
    go_ret
    exact ⟨ret_bool (by rw [HF.out, tailB_none, Bool.eq_iff_iff]; simp), below_join B0.out b1⟩
  have hb : (h == -1) = false := by simpa using hh
  have HT := Lib.hid (tailB_some (l := l) hh)
  clear hh
  cases hbh : inB h 0 255
  · go_enter Tryd.func42, Tryd.ntmps42
    go_wp2_with fail
    refine (l6In_any r 1 16 _).mono ?_
    rintro e w1 ⟨rfl, rfl⟩
    go_wp2_with fail
    refine (l4Bytes_any ao xs c _ hx0 lx).mono ?_
    rintro e w1 ⟨rfl, b1⟩
    have HA := (b1.block _ (by simp)).trans (heap_new_at w (.cells #[.int .i64 r, .slice ao xs.length c, .int .i64 h, .int .i64 l] 30) _ rfl)
    obtain ⟨c0, c1, c2, c3⟩ := cells4 HA
    clear HA
    go_wp2_with fail
    refine (l6In_any h 0 255 w1).mono ?_
    rintro e w2 ⟨rfl, rfl⟩
    go_wp2
    go_ret
    exact ⟨ret_bool (by rw [HF.out, HT.out, ← inB_byte, hbh]; rfl), below_join B0.out b1⟩
  · go_enter Tryd.func42, Tryd.ntmps42
    go_wp2_with fail
    refine (l6In_any r 1 16 _).mono ?_
    rintro e w1 ⟨rfl, rfl⟩
    go_wp2_with fail
    refine (l4Bytes_any ao xs c _ hx0 lx).mono ?_
    rintro e w1 ⟨rfl, b1⟩
    have HA := (b1.block _ (by simp)).trans (heap_new_at w (.cells #[.int .i64 r, .slice ao xs.length c, .int .i64 h, .int .i64 l] 30) _ rfl)
    obtain ⟨c0, c1, c2, c3⟩ := cells4 HA
    clear HA
    go_wp2_with fail
    refine (l6In_any h 0 255 w1).mono ?_
    rintro e w2 ⟨rfl, rfl⟩
    go_wp2_with fail
    refine (l6In_any l 1 3 w1).mono ?_
    rintro e w2 ⟨rfl, rfl⟩
    go_wp2
    go_ret
    exact ⟨ret_bool (by rw [HF.out, HT.out, ← inB_byte, hbh]; rfl), below_join B0.out b1⟩
end Go.Proofs.YtkmampichfbppaaDoor
