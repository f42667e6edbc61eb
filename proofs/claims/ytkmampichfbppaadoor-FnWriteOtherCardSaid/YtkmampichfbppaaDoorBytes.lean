/- Lists of bytes: the tests on them. -/
import Derived.Test.YtkmampichfbppaaDoorLeaf
namespace Go.Proofs.YtkmampichfbppaaDoor
open Go.RowKit

def bytesB (xs : List Int) : Bool := xs.all byteB
theorem inB_byte (x : Int) : inB x 0 255 = byteB x := rfl

theorem allBytes_any (ao : Option Addr) (xs : List Int) (c : Nat) (w : World) (hx : Ints w ao xs) (lx : xs.length ≤ 4611686018427387904) :
    Calls Tryd.prog 57 #[.slice ao xs.length c] w fun e w' => e = .returned (.bool (bytesB xs)) ∧ Below w.heap.size w w' := by
  go_enter Tryd.func57, Tryd.ntmps57
  go_wp2
  go_loopw [7] (fun i wr => ∃ k : Nat, k ≤ xs.length ∧ i = .int .i64 k ∧ Below w.heap.size w wr ∧ bytesB (xs.take k) = true) (fun i _ => xs.length - (intOf i).toNat)
  case atStart => exact ⟨0, Nat.zero_le _, rfl, Below.refl _ _, rfl⟩
  case round =>
    obtain ⟨k, hk, rfl, hb, hall⟩ := hrel
    have HA := Lib.hid hall
    clear hall
    by_cases hlt : k < xs.length
    · obtain ⟨b, off, x, rfl, ex, x0⟩ := (hx.below hb).at_ hlt
      have EX := Lib.hid ex
      clear ex hx
      cases hv : byteB x
      · go_wp2_with fail
        refine (isByte_any x _).mono ?_
        rintro e w1 ⟨rfl, rfl⟩
        go_wp2
        go_ret
        exact ⟨ret_bool (all_no EX.out hv).symm, hb⟩
      · go_wp2_with fail
        refine (isByte_any x _).mono ?_
        rintro e w1 ⟨rfl, rfl⟩
        go_wp2
        go_roundw
        case rel => exact ⟨k + 1, by omega, by go_num, hb, all_step EX.out HA.out hv⟩
        case measure => simp [intOf]; omega
    · have he : k = xs.length := by omega
      go_wp2
      go_ret
      refine ⟨ret_bool ?_, hb⟩
      have := HA.out
      rw [he, List.take_length] at this
      exact this.symm

theorem l4Bytes_any (ao : Option Addr) (xs : List Int) (c : Nat) (w : World) (hx : Ints w ao xs) (lx : xs.length ≤ 4611686018427387904) :
    Calls Tryd.prog 55 #[.slice ao xs.length c] w fun e w' => e = .returned (.bool (bytesB xs)) ∧ Below w.heap.size w w' := by
  go_enter Tryd.func55, Tryd.ntmps55
  go_wp2
  go_loopw [3] (fun i wr => ∃ k : Nat, k ≤ xs.length ∧ i = .int .i64 k ∧ Below w.heap.size w wr ∧ bytesB (xs.take k) = true) (fun i _ => xs.length - (intOf i).toNat)
  case atStart => exact ⟨0, Nat.zero_le _, rfl, Below.refl _ _, rfl⟩
  case round =>
    obtain ⟨k, hk, rfl, hb, hall⟩ := hrel
    have HA := Lib.hid hall
    clear hall
    by_cases hlt : k < xs.length
    · obtain ⟨b, off, x, rfl, ex, x0⟩ := (hx.below hb).at_ hlt
      have EX := Lib.hid ex
      clear ex hx
      cases hv : inB x 0 255
      · go_wp2_with fail
        refine (l6In_any x 0 255 _).mono ?_
        rintro e w1 ⟨rfl, rfl⟩
        go_wp2
        go_ret
        exact ⟨ret_bool (all_no EX.out hv).symm, hb⟩
      · go_wp2_with fail
        refine (l6In_any x 0 255 _).mono ?_
        rintro e w1 ⟨rfl, rfl⟩
        go_wp2
        go_roundw
        case rel => exact ⟨k + 1, by omega, by go_num, hb, all_step EX.out HA.out hv⟩
        case measure => simp [intOf]; omega
    · have he : k = xs.length := by omega
      go_wp2
      go_ret
      refine ⟨ret_bool ?_, hb⟩
      have := HA.out
      rw [he, List.take_length] at this
      exact this.symm
end Go.Proofs.YtkmampichfbppaaDoor
