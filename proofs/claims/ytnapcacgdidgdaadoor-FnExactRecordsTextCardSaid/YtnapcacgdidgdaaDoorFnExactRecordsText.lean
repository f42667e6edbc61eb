/- FnExactRecordsText: for every list of records the program's RecordsText answers what the reference's answers, and leaves its argument as it was. No conditions beyond the statement's own. -/
import Derived.Test.YtnapcacgdidgdaaDoorTabs
import Derived.Test.YtnapcacgdidgdaaDoorTextS
import Derived.Test.YtnapcacgdidgdaaDoorRec2
import Derived.Test.YtnapcacgdidgdaaDoorCards
import Derived.Test.YtnapcacgdidgdaaDoorTie
import Derived.SevenTiedAt
namespace Go.Proofs.YtnapcacgdidgdaaDoor
open Go Go.ChangeShapes Go.WideShapes Go.ChangeAt Go.RowKit

set_option maxHeartbeats 1000000 in
set_option maxRecDepth 100000 in
theorem FnExactRecordsText_walk (ao : Option Addr) (rs : List Rec) (c : Nat) (w : World) (h : Recs w ao rs) (hc : rs.length ≤ c) (hm : c ≤ maxLen) (hT : Tab w) :
    Calls Tryd.prog 5 #[.slice ao rs.length c] w fun e w' => e = .returned (.bool true) ∧ Below w.heap.size w w' := by
  by_cases hn : (rs.length : Int) ≤ 1048576
  · go_enter Tryd.func5, Tryd.ntmps5
    go_wp2_with fail
    refine (szRecordS_yes ao rs.length c _ _ hn (by omega)).mono ?_
    rintro e w1 ⟨rfl, rfl⟩
    go_wp2_with fail
    refine (toRecordS_any ao rs c w h (by omega)).mono ?_
    rintro e w1 ⟨a1, c1, rfl, ho1, hb1⟩
    go_wp2_with fail
    refine (specRecordsText_any a1 rs c1 w1 ho1.recs (by omega)).mono ?_
    rintro e w2 ⟨rfl, hb2⟩
    have B2 := below_join hb1 hb2
    go_wp2_with fail
    refine (toRecordS_any ao rs c w2 (h.below B2) (by omega)).mono ?_
    rintro e w3 ⟨a3, c3, rfl, ho3, hb3⟩
    have B3 := below_join B2 hb3
    go_wp2_with fail
    refine (implRecordsText_any a3 rs c3 w3 ho3.recs (by omega) (hT.below B3)).mono ?_
    rintro e w4 ⟨rfl, hb4⟩
    have B4 := below_join B3 hb4
    go_wp2_with fail
    refine (toRecordS_any ao rs c w4 (h.below B4) (by omega)).mono ?_
    rintro e w5 ⟨a5, c5, rfl, ho5, hb5⟩
    have B5 := below_join B4 hb5
    go_wp2_with fail
    refine (eqRecordS_any a3 a5 rs rs c3 c5 w5 (ho3.recs.below (below_join hb4 hb5)) ho5.recs (by omega) (by omega)).mono ?_
    rintro e w6 ⟨rfl, hb6⟩
    have B6 := below_join B5 hb6
    go_wp2
    go_ret
    exact ⟨rfl, B6⟩
  · have hn' : (1048576 : Int) < (rs.length : Int) := by omega
    unfold maxLen at hm
    go_enter Tryd.func5, Tryd.ntmps5
    go_wp2_with fail
    refine (szRecordS_no ao rs.length c _ _ hn' (by omega) (by omega)).mono ?_
    rintro e w1 ⟨rfl, rfl⟩
    go_wp2
    go_ret
    exact ⟨rfl, Below.refl _ _⟩

set_option linter.unusedVariables false in
set_option maxRecDepth 100000 in
theorem FnExactRecordsText_lifted (os : Os) (started : os.Started) (H : Type) (enc : TypeId × Value → H) :
    ReturnsInHanded {} Tryd.checked os 5 .any (fun w args => (Rows.fnExactRecordsTextSpec.pre enc Tryd.prog Tryd.f5 [] false w args ∧ laidMetH Tryd.prog laid3 w) ∧ sizedMet enc Tryd.prog Tryd.f5 (OpenSpec.ofChange Rows.fnExactRecordsTextSpec) false w args)
      (Rows.fnExactRecordsTextSpec.post enc Tryd.prog Tryd.f5 false true false false) := by
  refine returnsInHanded_of_change_and (C := Tryd.checked) (X := fun w _ => laidMetH Tryd.prog laid3 w) (fun _ _ _ hh h => h.of_heap hh) own_knob started (by kernel_rfl) Tryd.func5
    (ChangeSpec.witness_shaped (enc := enc) (C := Tryd.checked) (os := os) (X := fun w _ => laidMetH Tryd.prog laid3 w) false (World.doorLaid Tryd.prog 400 os) #[.slice none 0 0] 8 rfl (World.shaped_of_RefB (by kernel_rfl) (by kernel_rfl)) (by kernel_rfl) (by kernel_rfl) (by kernel_rfl) (door_met os _)) ?_
  intro W base args ds gs before hval0 hW _ _ hL _
  have hval : ∀ (j : Nat) t v, Tryd.f5.params[j]? = some t → args[j]? = some v → Value.okWide Tryd.prog W .any base t v := hval0
  have hW' := hW
  obtain ⟨p, q, hA0, hV, rfl, hfz, hnd⟩ := hW
  have hA : DataW.TrodAll enc Tryd.prog W 0 (fun _ => true) true Tryd.f5.params.toList args.toList ds p := hA0
  rw [Tryd.params5] at hA hval
  obtain ⟨v0, vs0, d0, ds0, p0, q0, hargs, rfl, rfl, h0, r0⟩ := trodAll_cons hA
  obtain ⟨rfl, rfl, rfl⟩ := trodAll_nil r0
  obtain rfl : args = #[v0] := by cases args; simp_all
  obtain ⟨rfl, rfl⟩ := trodVars_none hV
  have k0 := h0
  have lt0 : ∀ x ∈ p0, x.block < W.heap.size := by obtain ⟨m, hm⟩ := k0; exact DataW.trod_lt m _ _ _ hm
  obtain ⟨a0, len0, cap0, rfl⟩ := okWide_slice Tryd.underlying30 (hval 0 30 v0 rfl rfl)
  obtain ⟨z0, rfl, lc0, lm0, rz0⟩ : ∃ z : List Rec, len0 = z.length ∧ z.length ≤ cap0 ∧ cap0 ≤ maxLen ∧ Recs W a0 z := by
    obtain ⟨fuel, hf⟩ := h0
    obtain ⟨ao, cap, z, e, h1, h2, h3⟩ := rd_recs hf
    simp [Value.cells] at e
    obtain ⟨rfl, rfl, rfl⟩ := e
    exact ⟨z, rfl, h1, h2, h3⟩
  have lb0 : z0.length ≤ cap0 := lc0
  clear hA0 hval0
  refine (FnExactRecordsText_walk a0 z0 cap0 W rz0 lc0 lm0 (tab_of_laid hL)).mono fun e W' ⟨he, bel⟩ => ?_
  subst he
  exact ⟨_, rfl, _, _, _, [], _, [], hW', trodAll_mk1 (shut_bool Tryd.underlying4 _), (trodAll_cons_mk (Below.trod laid_out (by kernel_rfl) (of_decide_eq_true (by kernel_rfl)) k0 bel lt0) trodAll_mk0), rfl, bel.frame _, fun h => by cases h⟩

theorem FnExactRecordsText_row : Rows.FnExactRecordsTextSaid :=
  OpenClaim.holds_of_wide 5 Tryd.f5 rfl rfl rfl rfl rfl rfl rfl ⟨rfl, rfl, rfl, rfl, rfl⟩ rfl rfl rfl rfl rfl (by kernel_rfl) Tryd.func5 (by kernel_rfl)
    (of_decide_eq_true (by kernel_rfl)) (by unfold Func.isWrapper; first | (rw [if_pos (by decide +kernel)]; kernel_rfl) | (rw [if_neg (by decide +kernel)]; exact ⟨rfl, rfl⟩))
    (fun os started H enc _ => FnExactRecordsText_lifted os started H enc)

theorem FnExactRecordsText_holds : Rows.FnExactRecordsTextCardSaid :=
  Claim7.holds_tied_plain_at .later [] [.data, .data, .data] true (true, "e485033ee79d6da8a938c3263f1e07e4051bc5923f5ad77c9f6c45ce22ea5d54") false
    FnExactRecordsText_row (fun _ h => by cases h) (by kernel_rfl) (fun _ h => by cases h) fnExactRecordsText_row_tie rfl ⟨rfl, rfl⟩ (by kernel_rfl) rfl
    (fun f fn hf hfn => by
      obtain rfl : f = 5 := Option.some.inj ((show Tryd.prog.funcNamed "loop.example/serialpair/laws.FnExactRecordsText" = some 5 by kernel_rfl).symm.trans hf) |>.symm
      obtain rfl : fn = Tryd.f5 := (Option.some.inj (Tryd.func5.symm.trans hfn)).symm
      exact ⟨by kernel_rfl, fun j t ht => by
        rw [Tryd.params5] at ht
        have h3 : t = 30 := by
          rcases j with _ | j
          · simpa using ht.symm
          · simp at ht
        subst h3
        exact (show Tryd.prog.wantsStandIn 30 = false by kernel_rfl)⟩)
    (by kernel_rfl)
end Go.Proofs.YtnapcacgdidgdaaDoor
