/- Bytes that came: copies of them, comparison, marks. -/
import Derived.Test.YtkmampichfbppaaDoorRecv5
namespace Go.Proofs.YtkmampichfbppaaDoor
open Go.RowKit




set_option maxHeartbeats 400000 in
theorem sameGot_any (ao bo : Option Addr) (xs ys : List Gt) (c d : Nat) (w : World) (hx : Gts w ao xs) (hy : Gts w bo ys)
    (lx : xs.length ≤ 4611686018427387904) (ly : ys.length ≤ 4611686018427387904) :
    Calls Tryd.prog 26 #[.slice ao xs.length c, .slice bo ys.length d] w fun e w' => e = .returned (.bool (decide (xs = ys))) ∧ ∃ n, w' = w.drewN n := by
  by_cases hl : xs.length = ys.length
  · have hlb : ((xs.length : Int) != (ys.length : Int)) = false := by simp [hl]
    have HL := Lib.hid hl
    clear hl
    go_enter Tryd.func26, Tryd.ntmps26
    go_wp2
    go_loopw [5] (fun i wr => ∃ k n : Nat, k ≤ xs.length ∧ i = .int .i64 k ∧ wr = w.drewN n ∧ xs.take k = ys.take k) (fun i _ => xs.length - (intOf i).toNat)
    case atStart => exact ⟨0, 0, Nat.zero_le _, rfl, rfl, rfl⟩
    case round =>
      obtain ⟨k, n, hk, rfl, rfl, ht⟩ := hrel
      have HT := Lib.hid ht
      clear ht
      by_cases hlt : k < xs.length
      · have hlt2 : k < ys.length := by have := HL.out; omega
        obtain ⟨b, off, ⟨t, x⟩, rfl, ex, _, x0, x1⟩ := hx.at_ hlt
        obtain ⟨b2, off2, ⟨t', x'⟩, rfl, ey, _, y0, y1⟩ := hy.at_ hlt2
        have EX := Lib.hid ex
        have EY := Lib.hid ey
        clear ex ey hx hy
        dsimp only at x0 x1 y0 y1
        by_cases h0 : t = t'
        case neg =>
          have HN : Hid ((⟨t, x⟩ : Gt) ≠ ⟨t', x'⟩) := Lib.hid (by simp [h0])
          go_wp2
          go_quiet (fail)
          go_wp2
          go_ret
          exact ⟨ret_bool (by simp [ne_of_at EX.out EY.out HN.out]), n + nq, by simp⟩
        subst h0
        by_cases h1 : x = x'
        case neg =>
          have HN : Hid ((⟨t, x⟩ : Gt) ≠ ⟨t, x'⟩) := Lib.hid (by simp [h1])
          go_wp2
          go_quiet (fail)
          go_wp2
          go_ret
          exact ⟨ret_bool (by simp [ne_of_at EX.out EY.out HN.out]), n + nq, by simp⟩
        subst h1
        go_wp2
        go_quiet (fail)
        go_wp2
        go_roundw
        case rel => exact ⟨k + 1, n + nq, by omega, by go_num, by simp, eq_take_step EX.out EY.out HT.out rfl⟩
        case measure => simp [intOf]; omega
      · go_wp2
        go_ret
        have e1 := HT.out
        have e2 := HL.out
        rw [List.take_of_length_le (by omega), List.take_of_length_le (by omega)] at e1
        exact ⟨ret_bool (by simp [e1]), _, rfl⟩
  · have hlb : ((xs.length : Int) != (ys.length : Int)) = true := by simp; omega
    go_enter Tryd.func26, Tryd.ntmps26
    go_wp2
    go_ret
    refine ⟨?_, 0, rfl⟩
    rw [show decide (xs = ys) = false by simp; rintro rfl; exact hl rfl]
    rfl



theorem sameGot_below (ao bo : Option Addr) (xs ys : List Gt) (c d : Nat) (w : World) (hx : Gts w ao xs) (hy : Gts w bo ys)
    (lx : xs.length ≤ 4611686018427387904) (ly : ys.length ≤ 4611686018427387904) :
    Calls Tryd.prog 26 #[.slice ao xs.length c, .slice bo ys.length d] w fun e w' => e = .returned (.bool (decide (xs = ys))) ∧ Below w.heap.size w w' :=
  (sameGot_any ao bo xs ys c d w hx hy lx ly).mono fun _ _ ⟨he, n, hn⟩ => ⟨he, hn ▸ below_drewN (Below.refl _ _) n⟩
end Go.Proofs.YtkmampichfbppaaDoor
