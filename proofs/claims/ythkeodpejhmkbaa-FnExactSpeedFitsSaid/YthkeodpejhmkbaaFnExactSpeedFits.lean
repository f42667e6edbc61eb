/- FnExactSpeedFits: for every list of samples and every speed the program's SpeedFits answers what the reference's answers, leaves its argument as it was. No condition. -/
import Derived.Test.YthkeodpejhmkbaaSpeed
import Derived.Test.YthkeodpejhmkbaaSaidB
namespace Go.Proofs.Ythkeodpejhmkbaa
open Go.ChangeShapes Go.WideShapes Go.ChangeAt Go.RowKit

set_option maxHeartbeats 1000000 in
theorem FnExactSpeedFits_walk (ao : Option Addr) (xs : List Int) (c : Nat) (s : Int) (w : World) (h : Ints w ao xs) (_hc : xs.length ≤ c) (_hm : c ≤ maxLen) (_hs : -9223372036854775808 ≤ s ∧ s ≤ 9223372036854775807) :
    Calls Try.prog 4 #[.slice ao xs.length c, .int .i64 s] w fun e w' => e = .returned (.bool true) ∧ Below w.heap.size w w' := by
  unfold maxLen at _hm
  by_cases hn : (xs.length : Int) ≤ 1048576
  · go_enter Try.func4, Try.ntmps4
    go_wp2_with fail
    refine (toIntS_any ao xs c w h (by omega)).mono ?_
    rintro e w1 ⟨a1, c1, rfl, o1, b1⟩
    go_wp2_with fail
    refine (specSpeedFits_any a1 xs c1 s w1 o1.ints (by omega)).mono ?_
    rintro e w2 ⟨rfl, b2⟩
    have B2 := below_join b1 b2
    go_wp2_with fail
    refine (toIntS_any ao xs c w2 (h.below B2) (by omega)).mono ?_
    rintro e w3 ⟨a3, c3, rfl, o3, b3⟩
    have B3 := below_join B2 b3
    go_wp2_with fail
    refine (implSpeedFits_any a3 xs c3 s w3 o3.ints (by omega)).mono ?_
    rintro e w4 ⟨rfl, b4⟩
    have B4 := below_join B3 b4
    go_wp2_with fail
    refine (toIntS_any ao xs c w4 (h.below B4) (by omega)).mono ?_
    rintro e w5 ⟨a5, c5, rfl, o5, b5⟩
    have B5 := below_join B4 b5
    go_wp2_with fail
    refine (eqIntS_below a3 a5 xs xs c3 c5 w5 (o3.ints.below (below_join b4 b5)) o5.ints (by omega) (by omega)).mono ?_
    rintro e w6 ⟨rfl, b6⟩
    have B6 := below_join B5 b6
    go_wp2
    go_ret
    exact ⟨rfl, B6⟩
  · have hn' : (1048576 : Int) < (xs.length : Int) := by omega
    go_enter Try.func4, Try.ntmps4
    go_wp2
    go_ret
    exact ⟨rfl, Below.refl _ _⟩

set_option linter.unusedVariables false in
set_option maxRecDepth 100000 in
theorem FnExactSpeedFits_lifted (os : Os) (started : os.Started) (H : Type) (enc : TypeId × Value → H) :
    ReturnsInHanded {} Try.checked os 4 .any (Rows.fnExactSpeedFitsSpec.pre6 enc Try.prog Try.f4 Rows.fnExactSpeedFitsRow.domain false) (Rows.fnExactSpeedFitsSpec.post enc Try.prog Try.f4 false true false false) := by
  refine returnsInHanded_of_change (C := Try.checked) own_knob started (by kernel_rfl) Try.func4
    (ChangeSpec.witness6 (enc := enc) (C := Try.checked) false ⟨#[], #[.slice none 0 0, .int .i64 0], []⟩ 8 (by kernel_rfl) (by kernel_rfl) (by kernel_rfl) (by kernel_rfl)) ?_
  intro W base args ds gs before hval0 hW hcnd _
  have hval : ∀ (j : Nat) t v, Try.f4.params[j]? = some t → args[j]? = some v → Value.okWide Try.prog W .any base t v := hval0
  have hW' := hW
  obtain ⟨p, q, hA0, hV, rfl, hfz, hnd⟩ := hW
  have hA : DataW.TrodAll enc Try.prog W 0 (fun _ => true) true Try.f4.params.toList args.toList ds p := hA0
  rw [Try.params4] at hA hval
  obtain ⟨v0, vs0, d0, ds0, p0, q0, hargs, rfl, rfl, h0, r0⟩ := trodAll_cons hA
  obtain ⟨v1, vs1, d1, ds1, p1, q1, rfl, rfl, rfl, h1, r1⟩ := trodAll_cons r0
  obtain ⟨rfl, rfl, rfl⟩ := trodAll_nil r1
  obtain rfl : args = #[v0, v1] := by cases args; simp_all
  obtain ⟨rfl, rfl⟩ := trodVars_none hV
  have k0 := h0
  have lt0 : ∀ x ∈ p0, x.block < W.heap.size := by obtain ⟨m, hm⟩ := k0; exact DataW.trod_lt m _ _ _ hm
  obtain ⟨a0, len0, cap0, rfl⟩ := okWide_slice Try.underlying22 (hval 0 22 v0 rfl rfl)
  obtain ⟨z0, rfl, lc0, lm0, rz0⟩ : ∃ z : List Int, len0 = z.length ∧ z.length ≤ cap0 ∧ cap0 ≤ maxLen ∧ Ints W a0 z := by
    obtain ⟨fuel, hf⟩ := h0
    obtain ⟨ao, cap, z, e, h1, h2, h3⟩ := rd_ints Try.underlying22 Try.underlying3 (by kernel_rfl) hf
    simp [Value.cells] at e
    obtain ⟨rfl, rfl, rfl⟩ := e
    exact ⟨z, rfl, h1, h2, h3⟩
  have lb0 : z0.length ≤ cap0 := lc0
  obtain ⟨x1, rfl, rfl, rfl, wx1⟩ := open_int Try.underlying3 (hval 1 3 v1 rfl rfl) h1
  clear hA0 hval0
  refine (FnExactSpeedFits_walk a0 z0 cap0 x1 W rz0 lc0 lm0 (bd_i64 wx1)).mono fun e W' ⟨he, bel⟩ => ?_
  subst he
  exact ⟨_, rfl, _, _, _, [], _, [], hW', trodAll_mk1 (shut_bool Try.underlying4 _), (trodAll_cons_mk (Below.trod laid_out (by kernel_rfl) (of_decide_eq_true (by kernel_rfl)) k0 bel lt0) (trodAll_cons_mk (shut_int Try.underlying3 wx1) trodAll_mk0)), rfl, bel.frame _, fun h => by cases h⟩

theorem FnExactSpeedFits_holds : Rows.FnExactSpeedFitsSaid :=
  OpenClaim.holds_of_wide 4 Try.f4 rfl rfl rfl rfl rfl rfl rfl ⟨rfl, rfl, rfl, rfl, rfl⟩ rfl rfl rfl rfl rfl (by kernel_rfl) Try.func4 (by kernel_rfl)
    (of_decide_eq_true (by kernel_rfl)) (by unfold Func.isWrapper; first | (rw [if_pos (by decide +kernel)]; kernel_rfl) | (rw [if_neg (by decide +kernel)]; exact ⟨rfl, rfl⟩))
    (fun os started H enc _ => FnExactSpeedFits_lifted os started H enc)
end Go.Proofs.Ythkeodpejhmkbaa
