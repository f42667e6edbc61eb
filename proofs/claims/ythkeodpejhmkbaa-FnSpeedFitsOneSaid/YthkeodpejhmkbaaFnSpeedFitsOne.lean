/- FnSpeedFitsOne: for every code, one sample always fits. No condition. -/
import Derived.Test.YthkeodpejhmkbaaRunsLaw
import Derived.Test.YthkeodpejhmkbaaLine5
import Derived.Test.YthkeodpejhmkbaaSaidB
namespace Go.Proofs.Ythkeodpejhmkbaa
open Go.ChangeShapes Go.WideShapes Go.ChangeAt Go.RowKit

set_option maxHeartbeats 1000000 in
set_option maxRecDepth 100000 in
theorem FnSpeedFitsOne_walk (ao : Option Addr) (bs : List Int) (c : Nat) (w : World) (h : Bytes w ao bs) (hc : bs.length ≤ c) (_hm : c ≤ maxLen) :
    Calls Try.prog 11 #[.slice ao bs.length c] w fun e w' => e = .returned (.bool true) ∧ Below w.heap.size w w' := by
  unfold maxLen at _hm
  by_cases hn : (bs.length : Int) ≤ 1048576
  case neg =>
    have hn' : (1048576 : Int) < (bs.length : Int) := by omega
    go_enter Try.func11, Try.ntmps11
    go_wp2
    go_ret
    exact ⟨rfl, Below.refl _ _⟩
  go_enter Try.func11, Try.ntmps11
  go_wp2_with fail
  refine (drawSpeedFits_any ao bs c w h hc (by omega)).mono ?_
  rintro e w1 ⟨a1, xs, c1, s, rfl, lx5, s0, s8, o1, b1⟩
  have i1 := o1.ints
  clear o1
  go_wp2_with fail
  refine (implSpeedFits_any a1 xs c1 s w1 i1 (by omega)).mono ?_
  rintro e w2 ⟨rfl, b2⟩
  have B2 := below_join b1 b2
  have i1 := i1.below b2
  go_wp2_with fail
  refine (specSpeedFits_any a1 xs c1 s w2 i1 (by omega)).mono ?_
  rintro e w3 ⟨rfl, b3⟩
  have B3 := below_join B2 b3
  have i1 := i1.below b3
  clear b1 b2 b3 B2
  cases hf : fitsB xs s
  · go_wp2
    go_ret
    exact ⟨by simp, B3⟩
  have hs1 : 1 ≤ s := by
    simp only [fitsB, Bool.and_eq_true, decide_eq_true_eq] at hf
    omega
  have hsz : (s == 0) = false := beq_eq_false_iff_ne.2 (by omega)
  have HF1 := Lib.hid (fun v h => implSpeedFits_any a1 xs c1 1 v h (by omega))
  rw [fits_one hf] at HF1
  have hsp := fits_speed hf
  have hnn := speedL_none (xs := xs)
  have hsb := least_bd (inner (runsL xs)) (-1) (by omega) (by omega) (fun d hd => (runsL_bd xs).2 d (inner_mem hd))
  have HSP := Lib.hid (fun v h => implSpeedOf_any a1 xs c1 v h (by omega))
  have hsb2 : speedL xs ≤ 500 := hsb.2
  obtain ⟨n, hnv⟩ : ∃ n, n = speedL xs := ⟨_, rfl⟩
  rw [← hnv] at HSP hsp hnn hsb2
  clear hsb hnv
  rcases hnn with rfl | hn0
  · go_wp2_with fail
    clear hf
    refine (HSP.out w3 i1).mono ?_
    rintro e w4 ⟨rfl, b4⟩
    go_wp2_with fail
    refine (HF1.out w4 (i1.below b4)).mono ?_
    rintro e w5 ⟨rfl, b5⟩
    go_wp2
    go_ret
    exact ⟨by simp, below_join (below_join B3 b4) b5⟩
  · have hm := hsp hn0
    have hnb : (n == -1) = false := beq_eq_false_iff_ne.2 (by omega)
    clear hsp
    go_wp2_with fail
    clear hf
    refine (HSP.out w3 i1).mono ?_
    rintro e w4 ⟨rfl, b4⟩
    go_wp2_with fail
    refine (HF1.out w4 (i1.below b4)).mono ?_
    rintro e w5 ⟨rfl, b5⟩
    go_wp2
    go_ret
    exact ⟨by simp, below_join (below_join B3 b4) b5⟩

set_option linter.unusedVariables false in
set_option maxRecDepth 100000 in
theorem FnSpeedFitsOne_lifted (os : Os) (started : os.Started) (H : Type) (enc : TypeId × Value → H) :
    ReturnsInHanded {} Try.checked os 11 .any (Rows.fnSpeedFitsOneSpec.pre6 enc Try.prog Try.f11 Rows.fnSpeedFitsOneRow.domain false) (Rows.fnSpeedFitsOneSpec.post enc Try.prog Try.f11 false true false false) := by
  refine returnsInHanded_of_change (C := Try.checked) own_knob started (by kernel_rfl) Try.func11
    (ChangeSpec.witness6 (enc := enc) (C := Try.checked) false ⟨#[], #[.slice none 0 0], []⟩ 8 (by kernel_rfl) (by kernel_rfl) (by kernel_rfl) (by kernel_rfl)) ?_
  intro W base args ds gs before hval0 hW hcnd _
  have hval : ∀ (j : Nat) t v, Try.f11.params[j]? = some t → args[j]? = some v → Value.okWide Try.prog W .any base t v := hval0
  have hW' := hW
  obtain ⟨p, q, hA0, hV, rfl, hfz, hnd⟩ := hW
  have hA : DataW.TrodAll enc Try.prog W 0 (fun _ => true) true Try.f11.params.toList args.toList ds p := hA0
  rw [Try.params11] at hA hval
  obtain ⟨v0, vs0, d0, ds0, p0, q0, hargs, rfl, rfl, h0, r0⟩ := trodAll_cons hA
  obtain ⟨rfl, rfl, rfl⟩ := trodAll_nil r0
  obtain rfl : args = #[v0] := by cases args; simp_all
  obtain ⟨rfl, rfl⟩ := trodVars_none hV
  have k0 := h0
  have lt0 : ∀ x ∈ p0, x.block < W.heap.size := by obtain ⟨m, hm⟩ := k0; exact DataW.trod_lt m _ _ _ hm
  obtain ⟨a0, len0, cap0, rfl⟩ := okWide_slice Try.underlying29 (hval 0 29 v0 rfl rfl)
  obtain ⟨z0, rfl, lc0, lm0, rz0⟩ : ∃ z : List Int, len0 = z.length ∧ z.length ≤ cap0 ∧ cap0 ≤ maxLen ∧ Bytes W a0 z := by
    obtain ⟨fuel, hf⟩ := h0
    obtain ⟨ao, cap, z, e, h1, h2, h3⟩ := rd_bytes hf
    simp [Value.cells] at e
    obtain ⟨rfl, rfl, rfl⟩ := e
    exact ⟨z, rfl, h1, h2, h3⟩
  have lb0 : z0.length ≤ cap0 := lc0
  clear hA0 hval0
  refine (FnSpeedFitsOne_walk a0 z0 cap0 W rz0 lc0 lm0).mono fun e W' ⟨he, bel⟩ => ?_
  subst he
  exact ⟨_, rfl, _, _, _, [], _, [], hW', trodAll_mk1 (shut_bool Try.underlying4 _), (trodAll_cons_mk (Below.trod laid_out (by kernel_rfl) (of_decide_eq_true (by kernel_rfl)) k0 bel lt0) trodAll_mk0), rfl, bel.frame _, fun h => by cases h⟩

theorem FnSpeedFitsOne_holds : Rows.FnSpeedFitsOneSaid :=
  OpenClaim.holds_of_wide 11 Try.f11 rfl rfl rfl rfl rfl rfl rfl ⟨rfl, rfl, rfl, rfl, rfl⟩ rfl rfl rfl rfl rfl (by kernel_rfl) Try.func11 (by kernel_rfl)
    (of_decide_eq_true (by kernel_rfl)) (by unfold Func.isWrapper; first | (rw [if_pos (by decide +kernel)]; kernel_rfl) | (rw [if_neg (by decide +kernel)]; exact ⟨rfl, rfl⟩))
    (fun os started H enc _ => FnSpeedFitsOne_lifted os started H enc)
end Go.Proofs.Ythkeodpejhmkbaa
