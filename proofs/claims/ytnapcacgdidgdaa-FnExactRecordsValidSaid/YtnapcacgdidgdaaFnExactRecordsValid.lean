/- FnExactRecordsValid: for every list of records the program's RecordsValid answers what the reference's answers, and leaves its argument as it was. No condition. -/
import Derived.Test.YtnapcacgdidgdaaRec2
import Derived.Test.YtnapcacgdidgdaaSaidB
namespace Go.Proofs.Ytnapcacgdidgdaa
open Go.ChangeShapes Go.WideShapes Go.ChangeAt Go.RowKit

set_option maxHeartbeats 400000 in
theorem FnExactRecordsValid_walk (ao : Option Addr) (rs : List Rec) (c : Nat) (w : World) (h : Recs w ao rs) (hc : rs.length ≤ c) (hm : c ≤ maxLen) :
    Calls Try.prog 4 #[.slice ao rs.length c] w fun e w' => e = .returned (.bool true) ∧ Below w.heap.size w w' := by
  by_cases hn : (rs.length : Int) ≤ 1048576
  · go_enter Try.func4, Try.ntmps4
    go_wp2_with fail
    refine (szRecordS_yes ao rs.length c _ _ hn (by omega)).mono ?_
    rintro e w1 ⟨rfl, rfl⟩
    go_wp2_with fail
    refine (toRecordS_any ao rs c w h (by omega)).mono ?_
    rintro e w1 ⟨a1, c1, rfl, ho1, hb1⟩
    go_wp2_with fail
    refine (specRecordsValid_any a1 rs c1 w1 ho1.recs (by omega)).mono ?_
    rintro e w2 ⟨rfl, hb2⟩
    have B2 := below_join hb1 hb2
    go_wp2_with fail
    refine (toRecordS_any ao rs c w2 (h.below B2) (by omega)).mono ?_
    rintro e w3 ⟨a3, c3, rfl, ho3, hb3⟩
    have B3 := below_join B2 hb3
    go_wp2_with fail
    refine (implRecordsValid_any a3 rs c3 w3 ho3.recs (by omega)).mono ?_
    rintro e w4 ⟨rfl, hb4⟩
    have B4 := below_join B3 hb4
    go_wp2_with fail
    refine (toRecordS_any ao rs c w4 (h.below B4) (by omega)).mono ?_
    rintro e w5 ⟨a5, c5, rfl, ho5, hb5⟩
    have B5 := below_join B4 hb5
    go_wp2_with fail
    refine (eqRecordS_any a3 a5 rs rs c3 c5 w5 (ho3.recs.below (below_join hb4 hb5)) ho5.recs (by omega) (by omega)).mono ?_
    rintro e w6 ⟨rfl, hb6⟩
    have B6 := below_join B5 hb6
    go_wp2
    go_ret
    exact ⟨rfl, B6⟩
  · have hn' : (1048576 : Int) < (rs.length : Int) := by omega
    unfold maxLen at hm
    go_enter Try.func4, Try.ntmps4
    go_wp2_with fail
    refine (szRecordS_no ao rs.length c _ _ hn' (by omega) (by omega)).mono ?_
    rintro e w1 ⟨rfl, rfl⟩
    go_wp2
    go_ret
    exact ⟨rfl, Below.refl _ _⟩

set_option linter.unusedVariables false in
set_option maxRecDepth 100000 in
theorem FnExactRecordsValid_lifted (os : Os) (started : os.Started) (H : Type) (enc : TypeId × Value → H) :
    ReturnsInHanded {} Try.checked os 4 .any (Rows.fnExactRecordsValidSpec.pre6 enc Try.prog Try.f4 Rows.fnExactRecordsValidRow.domain false) (Rows.fnExactRecordsValidSpec.post enc Try.prog Try.f4 false true false false) := by
  refine returnsInHanded_of_change (C := Try.checked) own_knob started (by kernel_rfl) Try.func4
    (ChangeSpec.witness6 (enc := enc) (C := Try.checked) false ⟨#[], #[.slice none 0 0], []⟩ 8 (by kernel_rfl) (by kernel_rfl) (by kernel_rfl) (by kernel_rfl)) ?_
  intro W base args ds gs before hval0 hW hcnd _
  have hval : ∀ (j : Nat) t v, Try.f4.params[j]? = some t → args[j]? = some v → Value.okWide Try.prog W .any base t v := hval0
  have hW' := hW
  obtain ⟨p, q, hA0, hV, rfl, hfz, hnd⟩ := hW
  have hA : DataW.TrodAll enc Try.prog W 0 (fun _ => true) true Try.f4.params.toList args.toList ds p := hA0
  rw [Try.params4] at hA hval
  obtain ⟨v0, vs0, d0, ds0, p0, q0, hargs, rfl, rfl, h0, r0⟩ := trodAll_cons hA
  obtain ⟨rfl, rfl, rfl⟩ := trodAll_nil r0
  obtain rfl : args = #[v0] := by cases args; simp_all
  obtain ⟨rfl, rfl⟩ := trodVars_none hV
  have k0 := h0
  have lt0 : ∀ x ∈ p0, x.block < W.heap.size := by obtain ⟨m, hm⟩ := k0; exact DataW.trod_lt m _ _ _ hm
  obtain ⟨a0, len0, cap0, rfl⟩ := okWide_slice Try.underlying29 (hval 0 29 v0 rfl rfl)
  obtain ⟨z0, rfl, lc0, lm0, rz0⟩ : ∃ z : List Rec, len0 = z.length ∧ z.length ≤ cap0 ∧ cap0 ≤ maxLen ∧ Recs W a0 z := by
    obtain ⟨fuel, hf⟩ := h0
    obtain ⟨ao, cap, z, e, h1, h2, h3⟩ := rd_recs hf
    simp [Value.cells] at e
    obtain ⟨rfl, rfl, rfl⟩ := e
    exact ⟨z, rfl, h1, h2, h3⟩
  have lb0 : z0.length ≤ cap0 := lc0
  clear hA0 hval0
  refine (FnExactRecordsValid_walk a0 z0 cap0 W rz0 lc0 lm0).mono fun e W' ⟨he, bel⟩ => ?_
  subst he
  exact ⟨_, rfl, _, _, _, [], _, [], hW', trodAll_mk1 (shut_bool Try.underlying4 _), (trodAll_cons_mk (Below.trod laid_out (by kernel_rfl) (of_decide_eq_true (by kernel_rfl)) k0 bel lt0) trodAll_mk0), rfl, bel.frame _, fun h => by cases h⟩

theorem FnExactRecordsValid_holds : Rows.FnExactRecordsValidSaid :=
  OpenClaim.holds_of_wide 4 Try.f4 rfl rfl rfl rfl rfl rfl rfl ⟨rfl, rfl, rfl, rfl, rfl⟩ rfl rfl rfl rfl rfl (by kernel_rfl) Try.func4 (by kernel_rfl)
    (of_decide_eq_true (by kernel_rfl)) (by unfold Func.isWrapper; first | (rw [if_pos (by decide +kernel)]; kernel_rfl) | (rw [if_neg (by decide +kernel)]; exact ⟨rfl, rfl⟩))
    (fun os started H enc _ => FnExactRecordsValid_lifted os started H enc)
end Go.Proofs.Ytnapcacgdidgdaa
