/- FnExactRunsOf: for every list of samples the program's RunsOf answers what the reference's answers, leaves its argument as it was, and its result shares no memory. No condition. -/
import Derived.Test.YthkeodpejhmkbaaSpeed
import Derived.Test.YthkeodpejhmkbaaSaidB
namespace Go.Proofs.Ythkeodpejhmkbaa
open Go.ChangeShapes Go.WideShapes Go.ChangeAt Go.RowKit

set_option maxHeartbeats 1000000 in
theorem FnExactRunsOf_walk (ao : Option Addr) (xs : List Int) (c : Nat) (w : World) (h : Ints w ao xs) (_hc : xs.length ≤ c) (_hm : c ≤ maxLen) :
    Calls Try.prog 3 #[.slice ao xs.length c] w fun e w' => e = .returned (.bool true) ∧ Below w.heap.size w w' := by
  unfold maxLen at _hm
  by_cases hn : (xs.length : Int) ≤ 1048576
  · have hbl := (runsL_bd xs).1
    go_enter Try.func3, Try.ntmps3
    go_wp2_with fail
    refine (toIntS_any ao xs c w h (by omega)).mono ?_
    rintro e w1 ⟨a1, c1, rfl, o1, b1⟩
    go_wp2_with fail
    refine (specRunsOf_any a1 xs c1 w1 o1.ints (by omega)).mono ?_
    rintro e w2 ⟨a2, c2, rfl, o2, b2⟩
    have B2 := below_join b1 b2
    go_wp2_with fail
    refine (toIntS_any ao xs c w2 (h.below B2) (by omega)).mono ?_
    rintro e w3 ⟨a3, c3, rfl, o3, b3⟩
    have B3 := below_join B2 b3
    go_wp2_with fail
    refine (implRunsOf_any a3 xs c3 w3 o3.ints (by omega)).mono ?_
    rintro e w4 ⟨a4, c4, rfl, o4, b4⟩
    have B4 := below_join B3 b4
    have i2 := own_in o2
    have i3 := own_in o3
    have i4 := own_in o4
    have o2 := (o2.below b3).below b4
    have o3 := o3.below b4
    go_wp2_with fail
    refine (eqIntS_below a4 a2 _ _ c4 c2 w4 o4.ints o2.ints (by omega) (by omega)).mono ?_
    rintro e w5 ⟨rfl, b5⟩
    have B5 := below_join B4 b5
    have o2 := o2.below b5
    have o3 := o3.below b5
    have o4 := o4.below b5
    go_wp2_with fail
    refine (toIntS_any ao xs c w5 (h.below B5) (by omega)).mono ?_
    rintro e w6 ⟨a6, c6, rfl, o6, b6⟩
    have B6 := below_join B5 b6
    have o2 := o2.below b6
    have o3 := o3.below b6
    have o4 := o4.below b6
    go_wp2_with fail
    refine (eqIntS_below a3 a6 xs xs c3 c6 w6 o3.ints o6.ints (by omega) (by omega)).mono ?_
    rintro e w7 ⟨rfl, b7⟩
    have B7 := below_join B6 b7
    have o2 := o2.below b7
    have o3 := o3.below b7
    have o4 := o4.below b7
    clear o6
    go_wp2_with fail
    refine (markIntS_any _ a3 xs.length c3 1 _ w7 o3 (by omega) (by omega)).mono ?_
    rintro e w8 ⟨rfl, o3, g8⟩
    have z1 := b1.size
    have z2 := b2.size
    have z3 := b3.size
    have z4 := b4.size
    have z7 := B7.size
    have B8 := below_mark B7 i3 (by omega) z7 g8
    have o2 := own_apart o2 i2 i3 (.inl (Nat.le_refl _)) g8
    have o4 := own_apart o4 i4 i3 (.inr (Nat.le_refl _)) g8
    clear o3
    go_wp2_with fail
    refine (eqIntS_below a4 a2 _ _ c4 c2 w8 (own_cells o4) (own_cells o2) (by omega) (by omega)).mono ?_
    rintro e w9 ⟨rfl, b9⟩
    have B9 := B8.trans (b9.mono B8.size)
    have o2 := own_below o2 b9
    have o4 := own_below o4 b9
    go_wp2_with fail
    refine (markIntS_any _ a4 _ c4 1 _ w9 o4 (by omega) (by omega)).mono ?_
    rintro e w10 ⟨rfl, o4, g10⟩
    have B10 := below_mark B9 i4 (by omega) B9.size g10
    have o2 := own_apart o2 i2 i4 (.inl (by omega)) g10
    go_wp2_with fail
    refine (heldIntS_below a4 _ c4 1 w10 (own_cells o4) (by omega) (by omega)).mono ?_
    rintro e w11 ⟨rfl, b11⟩
    have B11 := B10.trans (b11.mono B10.size)
    have o2 := own_below o2 b11
    have o4 := own_below o4 b11
    go_wp2_with fail
    refine (toIntS_any ao xs c w11 (h.below B11) (by omega)).mono ?_
    rintro e w12 ⟨a12, c12, rfl, o12, b12⟩
    have B12 := B11.trans (b12.mono B11.size)
    have o2 := own_below o2 b12
    have o4 := own_below o4 b12
    go_wp2_with fail
    refine (implRunsOf_any a12 xs c12 w12 o12.ints (by omega)).mono ?_
    rintro e w13 ⟨a13, c13, rfl, o13, b13⟩
    have B13 := B12.trans (b13.mono B12.size)
    have o2 := own_below o2 b13
    have o4 := own_below o4 b13
    go_wp2_with fail
    refine (eqIntS_below a13 a2 _ _ c13 c2 w13 o13.ints (own_cells o2) (by omega) (by omega)).mono ?_
    rintro e w14 ⟨rfl, b14⟩
    have B14 := B13.trans (b14.mono B13.size)
    have o4 := own_below o4 b14
    go_wp2_with fail
    refine (heldIntS_below a4 _ c4 1 w14 (own_cells o4) (by omega) (by omega)).mono ?_
    rintro e w15 ⟨rfl, b15⟩
    have B15 := B14.trans (b15.mono B14.size)
    go_wp2
    go_ret
    exact ⟨rfl, B15⟩
  · have hn' : (1048576 : Int) < (xs.length : Int) := by omega
    go_enter Try.func3, Try.ntmps3
    go_wp2
    go_ret
    exact ⟨rfl, Below.refl _ _⟩

set_option linter.unusedVariables false in
set_option maxRecDepth 100000 in
theorem FnExactRunsOf_lifted (os : Os) (started : os.Started) (H : Type) (enc : TypeId × Value → H) :
    ReturnsInHanded {} Try.checked os 3 .any (Rows.fnExactRunsOfSpec.pre6 enc Try.prog Try.f3 Rows.fnExactRunsOfRow.domain false) (Rows.fnExactRunsOfSpec.post enc Try.prog Try.f3 false true false false) := by
  refine returnsInHanded_of_change (C := Try.checked) own_knob started (by kernel_rfl) Try.func3
    (ChangeSpec.witness6 (enc := enc) (C := Try.checked) false ⟨#[], #[.slice none 0 0], []⟩ 8 (by kernel_rfl) (by kernel_rfl) (by kernel_rfl) (by kernel_rfl)) ?_
  intro W base args ds gs before hval0 hW hcnd _
  have hval : ∀ (j : Nat) t v, Try.f3.params[j]? = some t → args[j]? = some v → Value.okWide Try.prog W .any base t v := hval0
  have hW' := hW
  obtain ⟨p, q, hA0, hV, rfl, hfz, hnd⟩ := hW
  have hA : DataW.TrodAll enc Try.prog W 0 (fun _ => true) true Try.f3.params.toList args.toList ds p := hA0
  rw [Try.params3] at hA hval
  obtain ⟨v0, vs0, d0, ds0, p0, q0, hargs, rfl, rfl, h0, r0⟩ := trodAll_cons hA
  obtain ⟨rfl, rfl, rfl⟩ := trodAll_nil r0
  obtain rfl : args = #[v0] := by cases args; simp_all
  obtain ⟨rfl, rfl⟩ := trodVars_none hV
  have k0 := h0
  have lt0 : ∀ x ∈ p0, x.block < W.heap.size := by obtain ⟨m, hm⟩ := k0; exact DataW.trod_lt m _ _ _ hm
  obtain ⟨a0, len0, cap0, rfl⟩ := okWide_slice Try.underlying22 (hval 0 22 v0 rfl rfl)
  obtain ⟨z0, rfl, lc0, lm0, rz0⟩ : ∃ z : List Int, len0 = z.length ∧ z.length ≤ cap0 ∧ cap0 ≤ maxLen ∧ Ints W a0 z := by
    obtain ⟨fuel, hf⟩ := h0
    obtain ⟨ao, cap, z, e, h1, h2, h3⟩ := rd_ints Try.underlying22 Try.underlying3 (by kernel_rfl) hf
    simp [Value.cells] at e
    obtain ⟨rfl, rfl, rfl⟩ := e
    exact ⟨z, rfl, h1, h2, h3⟩
  have lb0 : z0.length ≤ cap0 := lc0
  clear hA0 hval0
  refine (FnExactRunsOf_walk a0 z0 cap0 W rz0 lc0 lm0).mono fun e W' ⟨he, bel⟩ => ?_
  subst he
  exact ⟨_, rfl, _, _, _, [], _, [], hW', trodAll_mk1 (shut_bool Try.underlying4 _), (trodAll_cons_mk (Below.trod laid_out (by kernel_rfl) (of_decide_eq_true (by kernel_rfl)) k0 bel lt0) trodAll_mk0), rfl, bel.frame _, fun h => by cases h⟩

theorem FnExactRunsOf_holds : Rows.FnExactRunsOfSaid :=
  OpenClaim.holds_of_wide 3 Try.f3 rfl rfl rfl rfl rfl rfl rfl ⟨rfl, rfl, rfl, rfl, rfl⟩ rfl rfl rfl rfl rfl (by kernel_rfl) Try.func3 (by kernel_rfl)
    (of_decide_eq_true (by kernel_rfl)) (by unfold Func.isWrapper; first | (rw [if_pos (by decide +kernel)]; kernel_rfl) | (rw [if_neg (by decide +kernel)]; exact ⟨rfl, rfl⟩))
    (fun os started H enc _ => FnExactRunsOf_lifted os started H enc)
end Go.Proofs.Ythkeodpejhmkbaa
