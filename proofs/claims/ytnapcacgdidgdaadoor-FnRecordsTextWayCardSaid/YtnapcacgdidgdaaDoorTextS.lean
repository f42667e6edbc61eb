/- The reference's RecordsText. -/
import Derived.Test.YtnapcacgdidgdaaDoorDec
namespace Go.Proofs.YtnapcacgdidgdaaDoor
open Go.RowKit


set_option maxRecDepth 100000 in
set_option maxHeartbeats 4000000 in
theorem specRecordsText_any (ao : Option Addr) (rs : List Rec) (c : Nat) (w : World) (hx : Recs w ao rs) (lx : rs.length ≤ 1048576) :
    Calls Tryd.prog 8 #[.slice ao rs.length c] w fun e w' => e = .returned (.string ⟨(textL rs).toArray⟩) ∧ Below w.heap.size w w' := by
  have e0 : textL rs = if recsB rs then textOf rs else [] := rfl
  have E0 := Lib.hid e0
  clear e0
  go_enter Tryd.func8, Tryd.ntmps8
  go_wp2
  go_loopw [3, 4] (fun v i wr => ∃ (k : Nat) (L : List UInt8), k ≤ rs.length ∧ i = .int .i64 k ∧ v = .string ⟨L.toArray⟩ ∧ Below w.heap.size w wr ∧ L = textOf (rs.take k) ∧ (0 < k → recsB rs = true)) (fun _ i _ => rs.length - (intOf i).toNat)
  case atStart => exact ⟨0, [], Nat.zero_le _, rfl, rfl, Below.refl _ _, rfl, fun h => absurd h (by omega)⟩
  case round =>
    obtain ⟨k, L, hk, rfl, rfl, hb, hL, hkv⟩ := hrel
    have HL := Lib.hid hL
    have HK := Lib.hid hkv
    clear hL hkv
    by_cases hlt : k < rs.length
    · cases hv : recsB rs
      · go_wp2_with fail
        refine (specRecordsValid_any ao rs c _ (hx.below hb) (by omega)).mono ?_
        rintro e w1 ⟨rfl, hb1⟩
        go_wp2
        go_ret
        have hk0 : k = 0 := by
          rcases Nat.eq_zero_or_pos k with h | h
          · exact h
          · have := HK.out h; rw [hv] at this; cases this
        have e1 : L = textL rs := by rw [E0.out, hv, HL.out, hk0]; rfl
        rw [← e1]
        exact ⟨rfl, hb.trans (hb1.mono hb.size)⟩
      · go_wp2_with fail
        refine (specRecordsValid_any ao rs c _ (hx.below hb) (by omega)).mono ?_
        rintro e w1 ⟨rfl, hb1⟩
        have hbn := hb.trans (hb1.mono hb.size)
        obtain ⟨b, off, ⟨t, x, y⟩, rfl, er, _, x0, x1, x2⟩ := (hx.below hbn).at_ hlt
        have ER := Lib.hid er
        have hr := recB_facts (recsB_at hv er)
        have hLl : L.length ≤ 300 := by rw [HL.out]; exact textOf_take_len hv k
        dsimp only at x0 x1 x2 hr
        clear er hb hb1
        rcases (show x = 0 ∨ x = 1 by omega) with rfl | rfl
        · have hx9 := hx.below hbn
          obtain ⟨D, hD⟩ : ∃ D, D = Lib.decDigits t.toNat := ⟨_, rfl⟩
          have HD := Lib.hid hD
          have hdl : D.length ≤ 4 := by rw [hD]; exact dec_len 3 _ (by omega)
          have hl6 := fun W => l6Dec_any t.toNat t.toNat W (Nat.le_refl _) (by omega)
          rw [← hD, Int.toNat_of_nonneg hr.1] at hl6
          have H6 := Lib.hid hl6
          have H4 := Lib.hid (fun W => l42Hex_any y W hr.2.2.2.2.1 hr.2.2.2.2.2)
          have p0 : ∀ p : After w1, p.w.cell? ⟨b, off + k * 3, none⟩ = some (.int .i64 t) := fun p => p.cell x0
          have p2 : ∀ p : After w1, p.w.cell? ⟨b, off + k * 3 + 2, none⟩ = some (.int .i64 y) := fun p => p.cell x2
          clear hD hl6
          go_wp2_with fail
          clear x0 x1 x2
          refine wp_region_after (by kernel_rfl) (by kernel_rfl) ?_
          repeat (go_big_quiet_step ((first | (go_at_call 20; exact After.call (H6.out _)) | (go_at_call 21; exact After.call (H4.out _)))))
          refine wpQuiet_nil ?_
          intro p
          go_wp2
          go_roundw
          case rel =>
            refine ⟨k + 1, L ++ lineOf ⟨t, 0, y⟩, by omega, by go_num, ?_, hbn.trans (p.below.mono hbn.size), by rw [textOf_snoc ER.out, ← HL.out], fun _ => trivial⟩
            simp only [ByteArray.mk_append_mk, lineOf]
            rw [← HD.out]
            simp [signB]
          case measure => simp [intOf]; omega
        · have hx9 := hx.below hbn
          obtain ⟨D, hD⟩ : ∃ D, D = Lib.decDigits t.toNat := ⟨_, rfl⟩
          have HD := Lib.hid hD
          have hdl : D.length ≤ 4 := by rw [hD]; exact dec_len 3 _ (by omega)
          have hl6 := fun W => l6Dec_any t.toNat t.toNat W (Nat.le_refl _) (by omega)
          rw [← hD, Int.toNat_of_nonneg hr.1] at hl6
          have H6 := Lib.hid hl6
          have H4 := Lib.hid (fun W => l42Hex_any y W hr.2.2.2.2.1 hr.2.2.2.2.2)
          have p0 : ∀ p : After w1, p.w.cell? ⟨b, off + k * 3, none⟩ = some (.int .i64 t) := fun p => p.cell x0
          have p2 : ∀ p : After w1, p.w.cell? ⟨b, off + k * 3 + 2, none⟩ = some (.int .i64 y) := fun p => p.cell x2
          clear hD hl6
          go_wp2_with fail
          clear x0 x1 x2
          refine wp_region_after (by kernel_rfl) (by kernel_rfl) ?_
          repeat (go_big_quiet_step ((first | (go_at_call 20; exact After.call (H6.out _)) | (go_at_call 21; exact After.call (H4.out _)))))
          refine wpQuiet_nil ?_
          intro p
          go_wp2
          go_roundw
          case rel =>
            refine ⟨k + 1, L ++ lineOf ⟨t, 1, y⟩, by omega, by go_num, ?_, hbn.trans (p.below.mono hbn.size), by rw [textOf_snoc ER.out, ← HL.out], fun _ => trivial⟩
            simp only [ByteArray.mk_append_mk, lineOf]
            rw [← HD.out]
            simp [signB]
          case measure => simp [intOf]; omega
    · have he : k = rs.length := by omega
      go_wp2
      go_ret
      have e1 : L = textL rs := by
        rw [E0.out, HL.out, he, List.take_length]
        cases hv : recsB rs
        · have : k = 0 := by
            rcases Nat.eq_zero_or_pos k with h | h
            · exact h
            · have := HK.out h; rw [hv] at this; cases this
          have : rs = [] := List.eq_nil_of_length_eq_zero (by omega)
          subst this; rfl
        · rfl
      rw [← e1]
      exact ⟨rfl, hb⟩
end Go.Proofs.YtnapcacgdidgdaaDoor
