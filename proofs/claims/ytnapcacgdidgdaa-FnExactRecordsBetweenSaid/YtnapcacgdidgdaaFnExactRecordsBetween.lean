/- FnExactRecordsBetween: for every list of records and all times the program's RecordsBetween answers what the reference's answers, leaves its argument as it was, and its result shares no memory. No condition. -/
import Derived.Test.YtnapcacgdidgdaaTree3
import Derived.Test.YtnapcacgdidgdaaSaidB
namespace Go.Proofs.Ytnapcacgdidgdaa
open Go.ChangeShapes Go.WideShapes Go.ChangeAt Go.RowKit

set_option maxHeartbeats 1000000 in
theorem FnExactRecordsBetween_walk (ao : Option Addr) (rs : List Rec) (c : Nat) (lo hi : Int) (w : World) (h : Recs w ao rs) (hc : rs.length ≤ c) (hm : c ≤ maxLen) (_hw : -9223372036854775808 ≤ lo ∧ lo ≤ 9223372036854775807) (_hu : -9223372036854775808 ≤ hi ∧ hi ≤ 9223372036854775807) :
    Calls Try.prog 9 #[.slice ao rs.length c, .int .i64 lo, .int .i64 hi] w fun e w' => e = .returned (.bool true) ∧ Below w.heap.size w w' := by
  by_cases hn : (rs.length : Int) ≤ 1048576
  · have hbl : (betL rs lo hi).length ≤ 1048576 := by have := betL_length rs lo hi; omega
    go_enter Try.func9, Try.ntmps9
    go_wp2_with fail
    refine (szRecordS_yes ao rs.length c _ _ hn (by omega)).mono ?_
    rintro e w1 ⟨rfl, rfl⟩
    go_wp2_with fail
    refine (toRecordS_any ao rs c w h (by omega)).mono ?_
    rintro e w1 ⟨a1, c1, rfl, o1, b1⟩
    go_wp2_with fail
    refine (specRecordsBetween_any a1 rs c1 lo hi w1 o1.recs (by omega)).mono ?_
    rintro e w2 ⟨a2, c2, rfl, o2, b2⟩
    have B2 := below_join b1 b2
    go_wp2_with fail
    refine (toRecordS_any ao rs c w2 (h.below B2) (by omega)).mono ?_
    rintro e w3 ⟨a3, c3, rfl, o3, b3⟩
    have B3 := below_join B2 b3
    go_wp2_with fail
    refine (implRecordsBetween_any a3 rs c3 lo hi w3 o3.recs (by omega)).mono ?_
    rintro e w4 ⟨a4, c4, rfl, o4, b4⟩
    have B4 := below_join B3 b4
    have i2 := own_in o2
    have i3 := own_in o3
    have i4 := own_in o4
    have o2 := (o2.below b3).below b4
    have o3 := o3.below b4
    go_wp2_with fail
    refine (eqRecordS_any a4 a2 _ _ c4 c2 w4 o4.recs o2.recs (by omega) (by omega)).mono ?_
    rintro e w5 ⟨rfl, b5⟩
    have B5 := below_join B4 b5
    have o2 := o2.below b5
    have o3 := o3.below b5
    have o4 := o4.below b5
    go_wp2_with fail
    refine (toRecordS_any ao rs c w5 (h.below B5) (by omega)).mono ?_
    rintro e w6 ⟨a6, c6, rfl, o6, b6⟩
    have B6 := below_join B5 b6
    have o2 := o2.below b6
    have o3 := o3.below b6
    have o4 := o4.below b6
    go_wp2_with fail
    refine (eqRecordS_any a3 a6 rs rs c3 c6 w6 o3.recs o6.recs (by omega) (by omega)).mono ?_
    rintro e w7 ⟨rfl, b7⟩
    have B7 := below_join B6 b7
    have o2 := o2.below b7
    have o3 := o3.below b7
    have o4 := o4.below b7
    clear o6
    go_wp2_with fail
    refine (markRecordS_any _ a3 rs.length c3 1 _ w7 o3 (by omega) (by omega)).mono ?_
    rintro e w8 ⟨rfl, o3, g8⟩
    have z1 := b1.size
    have z2 := b2.size
    have z3 := b3.size
    have z4 := b4.size
    have z7 := B7.size
    have B8 := below_mark B7 i3 (by omega) z7 g8
    have o2 := own_apart o2 i2 i3 (.inl (Nat.le_refl _)) g8
    have o4 := own_apart o4 i4 i3 (.inr (Nat.le_refl _)) g8
    clear o3
    go_wp2_with fail
    refine (eqRecordS_any a4 a2 _ _ c4 c2 w8 (own_cells o4) (own_cells o2) (by omega) (by omega)).mono ?_
    rintro e w9 ⟨rfl, b9⟩
    have B9 := B8.trans (b9.mono B8.size)
    have o2 := own_below o2 b9
    have o4 := own_below o4 b9
    go_wp2_with fail
    refine (markRecordS_any _ a4 _ c4 1 _ w9 o4 (by omega) (by omega)).mono ?_
    rintro e w10 ⟨rfl, o4, g10⟩
    have B10 := below_mark B9 i4 (by omega) B9.size g10
    have o2 := own_apart o2 i2 i4 (.inl (by omega)) g10
    go_wp2_with fail
    refine (heldRecordS_below a4 _ c4 1 w10 (own_cells o4) (by omega) (by omega)).mono ?_
    rintro e w11 ⟨rfl, b11⟩
    have B11 := B10.trans (b11.mono B10.size)
    have o2 := own_below o2 b11
    have o4 := own_below o4 b11
    go_wp2_with fail
    refine (toRecordS_any ao rs c w11 (h.below B11) (by omega)).mono ?_
    rintro e w12 ⟨a12, c12, rfl, o12, b12⟩
    have B12 := B11.trans (b12.mono B11.size)
    have o2 := own_below o2 b12
    have o4 := own_below o4 b12
    go_wp2_with fail
    refine (implRecordsBetween_any a12 rs c12 lo hi w12 o12.recs (by omega)).mono ?_
    rintro e w13 ⟨a13, c13, rfl, o13, b13⟩
    have B13 := B12.trans (b13.mono B12.size)
    have o2 := own_below o2 b13
    have o4 := own_below o4 b13
    go_wp2_with fail
    refine (eqRecordS_any a13 a2 _ _ c13 c2 w13 o13.recs (own_cells o2) (by omega) (by omega)).mono ?_
    rintro e w14 ⟨rfl, b14⟩
    have B14 := B13.trans (b14.mono B13.size)
    have o4 := own_below o4 b14
    go_wp2_with fail
    refine (heldRecordS_below a4 _ c4 1 w14 (own_cells o4) (by omega) (by omega)).mono ?_
    rintro e w15 ⟨rfl, b15⟩
    have B15 := B14.trans (b15.mono B14.size)
    go_wp2
    go_ret
    exact ⟨rfl, B15⟩
  · have hn' : (1048576 : Int) < (rs.length : Int) := by omega
    unfold maxLen at hm
    go_enter Try.func9, Try.ntmps9
    go_wp2_with fail
    refine (szRecordS_no ao rs.length c _ _ hn' (by omega) (by omega)).mono ?_
    rintro e w1 ⟨rfl, rfl⟩
    go_wp2
    go_ret
    exact ⟨rfl, Below.refl _ _⟩

set_option linter.unusedVariables false in
set_option maxRecDepth 100000 in
theorem FnExactRecordsBetween_lifted (os : Os) (started : os.Started) (H : Type) (enc : TypeId × Value → H) :
    ReturnsInHanded {} Try.checked os 9 .any (Rows.fnExactRecordsBetweenSpec.pre6 enc Try.prog Try.f9 Rows.fnExactRecordsBetweenRow.domain false) (Rows.fnExactRecordsBetweenSpec.post enc Try.prog Try.f9 false true false false) := by
  refine returnsInHanded_of_change (C := Try.checked) own_knob started (by kernel_rfl) Try.func9
    (ChangeSpec.witness6 (enc := enc) (C := Try.checked) false ⟨#[], #[.slice none 0 0, .int .i64 0, .int .i64 0], []⟩ 8 (by kernel_rfl) (by kernel_rfl) (by kernel_rfl) (by kernel_rfl)) ?_
  intro W base args ds gs before hval0 hW hcnd _
  have hval : ∀ (j : Nat) t v, Try.f9.params[j]? = some t → args[j]? = some v → Value.okWide Try.prog W .any base t v := hval0
  have hW' := hW
  obtain ⟨p, q, hA0, hV, rfl, hfz, hnd⟩ := hW
  have hA : DataW.TrodAll enc Try.prog W 0 (fun _ => true) true Try.f9.params.toList args.toList ds p := hA0
  rw [Try.params9] at hA hval
  obtain ⟨v0, vs0, d0, ds0, p0, q0, hargs, rfl, rfl, h0, r0⟩ := trodAll_cons hA
  obtain ⟨v1, vs1, d1, ds1, p1, q1, rfl, rfl, rfl, h1, r1⟩ := trodAll_cons r0
  obtain ⟨v2, vs2, d2, ds2, p2, q2, rfl, rfl, rfl, h2, r2⟩ := trodAll_cons r1
  obtain ⟨rfl, rfl, rfl⟩ := trodAll_nil r2
  obtain rfl : args = #[v0, v1, v2] := by cases args; simp_all
  obtain ⟨rfl, rfl⟩ := trodVars_none hV
  have k0 := h0
  have lt0 : ∀ x ∈ p0, x.block < W.heap.size := by obtain ⟨m, hm⟩ := k0; exact DataW.trod_lt m _ _ _ hm
  obtain ⟨a0, len0, cap0, rfl⟩ := okWide_slice Try.underlying29 (hval 0 29 v0 rfl rfl)
  obtain ⟨z0, rfl, lc0, lm0, rz0⟩ : ∃ z : List Rec, len0 = z.length ∧ z.length ≤ cap0 ∧ cap0 ≤ maxLen ∧ Recs W a0 z := by
    obtain ⟨fuel, hf⟩ := h0
    obtain ⟨ao, cap, z, e, h1, h2, h3⟩ := rd_recs hf
    simp [Value.cells] at e
    obtain ⟨rfl, rfl, rfl⟩ := e
    exact ⟨z, rfl, h1, h2, h3⟩
  have lb0 : z0.length ≤ cap0 := lc0
  obtain ⟨x1, rfl, rfl, rfl, wx1⟩ := open_int Try.underlying3 (hval 1 3 v1 rfl rfl) h1
  obtain ⟨x2, rfl, rfl, rfl, wx2⟩ := open_int Try.underlying3 (hval 2 3 v2 rfl rfl) h2
  clear hA0 hval0
  refine (FnExactRecordsBetween_walk a0 z0 cap0 x1 x2 W rz0 lc0 lm0 (bd_i64 wx1) (bd_i64 wx2)).mono fun e W' ⟨he, bel⟩ => ?_
  subst he
  exact ⟨_, rfl, _, _, _, [], _, [], hW', trodAll_mk1 (shut_bool Try.underlying4 _), (trodAll_cons_mk (Below.trod laid_out (by kernel_rfl) (of_decide_eq_true (by kernel_rfl)) k0 bel lt0) (trodAll_cons_mk (shut_int Try.underlying3 wx1) (trodAll_cons_mk (shut_int Try.underlying3 wx2) trodAll_mk0))), rfl, bel.frame _, fun h => by cases h⟩

theorem FnExactRecordsBetween_holds : Rows.FnExactRecordsBetweenSaid :=
  OpenClaim.holds_of_wide 9 Try.f9 rfl rfl rfl rfl rfl rfl rfl ⟨rfl, rfl, rfl, rfl, rfl⟩ rfl rfl rfl rfl rfl (by kernel_rfl) Try.func9 (by kernel_rfl)
    (of_decide_eq_true (by kernel_rfl)) (by unfold Func.isWrapper; first | (rw [if_pos (by decide +kernel)]; kernel_rfl) | (rw [if_neg (by decide +kernel)]; exact ⟨rfl, rfl⟩))
    (fun os started H enc _ => FnExactRecordsBetween_lifted os started H enc)
end Go.Proofs.Ytnapcacgdidgdaa
