/- FnSpeedFits: for every code, whole bits fit. No condition. -/
import Derived.Test.YthkeodpejhmkbaaRunsLaw
import Derived.Test.YthkeodpejhmkbaaLine5
import Derived.Test.YthkeodpejhmkbaaSaidB
namespace Go.Proofs.Ythkeodpejhmkbaa
open Go.ChangeShapes Go.WideShapes Go.ChangeAt Go.RowKit

set_option maxHeartbeats 1000000 in
set_option maxRecDepth 100000 in
theorem FnSpeedFits_walk (ao : Option Addr) (bs : List Int) (c : Nat) (w : World) (h : Bytes w ao bs) (hc : bs.length ≤ c) (_hm : c ≤ maxLen) :
    Calls Try.prog 10 #[.slice ao bs.length c] w fun e w' => e = .returned (.bool true) ∧ Below w.heap.size w w' := by
  unfold maxLen at _hm
  by_cases hn : (bs.length : Int) ≤ 1048576
  case neg =>
    have hn' : (1048576 : Int) < (bs.length : Int) := by omega
    go_enter Try.func10, Try.ntmps10
    go_wp2
    go_ret
    exact ⟨rfl, Below.refl _ _⟩
  go_enter Try.func10, Try.ntmps10
  go_wp2_with fail
  refine (drawSpeedFits_any ao bs c w h hc (by omega)).mono ?_
  rintro e w1 ⟨a1, xs, c1, s, rfl, lx5, s0, s8, o1, b1⟩
  have i1 := o1.ints
  clear o1
  go_wp2_with fail
  refine (implSpeedFits_any a1 xs c1 s w1 i1 (by omega)).mono ?_
  rintro e w2 ⟨rfl, b2⟩
  have B2 := below_join b1 b2
  have i1 := i1.below b2
  go_wp2_with fail
  refine (specSpeedFits_any a1 xs c1 s w2 i1 (by omega)).mono ?_
  rintro e w3 ⟨rfl, b3⟩
  have B3 := below_join B2 b3
  have i1 := i1.below b3
  clear b1 b2 b3 B2
  by_cases hs1 : s < 1
  · go_wp2
    go_ret
    exact ⟨by simp, B3⟩
  have hs1' : 1 ≤ s := by omega
  have hsz : (s == 0) = false := beq_eq_false_iff_ne.2 (by omega)
  have hs5 : s ≤ 500 := by omega
  clear hs1
  go_wp2_with fail
  refine (specRunsOf_any a1 xs c1 w3 i1 (by omega)).mono ?_
  rintro e w4 ⟨a3, c3, rfl, o3, b3⟩
  have B4 := below_join B3 b3
  have i1 := i1.below b3
  have hbd := runsL_bd xs
  have HR : Hid (runsL xs ≠ [] → fitsB xs s = (inner (runsL xs)).all (wholeP s)) := Lib.hid (fun h => by
    cases hs : sampB xs
    · exact absurd (by simp [runsL, hs]) h
    · exact fitsB_eq hs ⟨hs1', hs5⟩)
  have HI := Lib.hid (fun v h => implRunsOf_any a1 xs c1 v h (by omega))
  obtain ⟨L, hL⟩ : ∃ L, L = runsL xs := ⟨_, rfl⟩
  rw [← hL] at hbd HR HI
  rw [← hL]
  have hbl := hbd.1
  have HBD := Lib.hid hbd.2
  clear o3 b3 B3 hL hbd
  by_cases hz : L.length = 0
  · have hzI : (L.length : Int) = 0 := by omega
    have HZ := Lib.hid hz
    clear hz
    go_wp2
    go_ret
    exact ⟨by simp, B4⟩
  have hzb : ((L.length : Int) == 0) = false := beq_eq_false_iff_ne.2 (by omega)
  have hne : L ≠ [] := fun e => hz (by rw [e]; rfl)
  have HFE := Lib.hid (HR.out hne)
  have hil := inner_len L
  obtain ⟨F, hF⟩ : ∃ F, F = fitsB xs s := ⟨_, rfl⟩
  rw [← hF] at HFE
  rw [← hF]
  clear hz hne HR hF
  go_wp2_with fail
  refine (HI.out w4 i1).mono ?_
  rintro e w5 ⟨a2, c2, rfl, o2, b5⟩
  have B5 := below_join B4 b5
  have i2 := o2.ints
  clear o2 b5 B4
  go_wp2_with fail
  go_loopw [8, 9] (fun v i wr => ∃ (j : Nat) (A : Bool), j ≤ (inner L).length ∧ i = .int .i64 ((j : Int) + 1) ∧ v = .bool A ∧ A = ((inner L).take j).all (wholeP s) ∧ Below w5.heap.size w5 wr) (fun _ i _ => L.length - (intOf i).toNat)
  case atStart => exact ⟨0, true, Nat.zero_le _, by go_num, by first | rfl | (simp; done) | (simp; omega), by simp, Below.refl _ _⟩
  case round =>
    obtain ⟨j, A, hk, rfl, rfl, hA, hb⟩ := hrel
    have HA := Lib.hid hA
    clear hA
    by_cases hlt : j < (inner L).length
    · have hj2 : (j : Int) + 1 + 1 < (L.length : Int) := by omega
      have hj1 : (j : Int) + 1 < (L.length : Int) := by omega
      have hj0 : (0 : Int) ≤ (j : Int) + 1 := by omega
      have hjn : ((j : Int) + 1).toNat = j + 1 := by omega
      obtain ⟨b, off, x, rfl, ex, x0⟩ := (i2.below hb).at_ (show j + 1 < L.length by omega)
      have ei : (inner L)[j]? = some x := by rw [inner_get hlt]; exact ex
      have hx := HBD.out x (List.mem_of_getElem? ex)
      have hx1 := hx.1
      have hx5 := hx.2
      have ST := Lib.hid (whole_step (s := s) ei)
      have hm0 : 0 ≤ x % s := Int.emod_nonneg _ (by omega)
      have hm1 : x % s < s := Int.emod_lt_of_pos _ (by omega)
      clear ex ei hx
      cases A
      · go_wp2
        go_roundw
        case rel => exact ⟨j + 1, false, by omega, by go_num, rfl, by rw [ST.out, ← HA.out]; rfl, hb⟩
        case measure => simp [intOf]; omega
      · go_wp2
        go_roundw
        case rel => exact ⟨j + 1, x % s == 0, by omega, by go_num, rfl, by rw [ST.out, ← HA.out, Bool.true_and, wholeP, Bool.eq_iff_iff]; simp, hb⟩
        case measure => simp [intOf]; omega
    · have he : j = (inner L).length := by omega
      have heI : (L.length : Int) ≤ (j : Int) + 1 + 1 := by omega
      have hFA : F = A := by rw [HFE.out, HA.out, he, List.take_length]
      subst hFA
      clear he
      go_wp2
      go_ret
      exact ⟨by simp, B5.trans (hb.mono B5.size)⟩

set_option linter.unusedVariables false in
set_option maxRecDepth 100000 in
theorem FnSpeedFits_lifted (os : Os) (started : os.Started) (H : Type) (enc : TypeId × Value → H) :
    ReturnsInHanded {} Try.checked os 10 .any (Rows.fnSpeedFitsSpec.pre6 enc Try.prog Try.f10 Rows.fnSpeedFitsRow.domain false) (Rows.fnSpeedFitsSpec.post enc Try.prog Try.f10 false true false false) := by
  refine returnsInHanded_of_change (C := Try.checked) own_knob started (by kernel_rfl) Try.func10
    (ChangeSpec.witness6 (enc := enc) (C := Try.checked) false ⟨#[], #[.slice none 0 0], []⟩ 8 (by kernel_rfl) (by kernel_rfl) (by kernel_rfl) (by kernel_rfl)) ?_
  intro W base args ds gs before hval0 hW hcnd _
  have hval : ∀ (j : Nat) t v, Try.f10.params[j]? = some t → args[j]? = some v → Value.okWide Try.prog W .any base t v := hval0
  have hW' := hW
  obtain ⟨p, q, hA0, hV, rfl, hfz, hnd⟩ := hW
  have hA : DataW.TrodAll enc Try.prog W 0 (fun _ => true) true Try.f10.params.toList args.toList ds p := hA0
  rw [Try.params10] at hA hval
  obtain ⟨v0, vs0, d0, ds0, p0, q0, hargs, rfl, rfl, h0, r0⟩ := trodAll_cons hA
  obtain ⟨rfl, rfl, rfl⟩ := trodAll_nil r0
  obtain rfl : args = #[v0] := by cases args; simp_all
  obtain ⟨rfl, rfl⟩ := trodVars_none hV
  have k0 := h0
  have lt0 : ∀ x ∈ p0, x.block < W.heap.size := by obtain ⟨m, hm⟩ := k0; exact DataW.trod_lt m _ _ _ hm
  obtain ⟨a0, len0, cap0, rfl⟩ := okWide_slice Try.underlying29 (hval 0 29 v0 rfl rfl)
  obtain ⟨z0, rfl, lc0, lm0, rz0⟩ : ∃ z : List Int, len0 = z.length ∧ z.length ≤ cap0 ∧ cap0 ≤ maxLen ∧ Bytes W a0 z := by
    obtain ⟨fuel, hf⟩ := h0
    obtain ⟨ao, cap, z, e, h1, h2, h3⟩ := rd_bytes hf
    simp [Value.cells] at e
    obtain ⟨rfl, rfl, rfl⟩ := e
    exact ⟨z, rfl, h1, h2, h3⟩
  have lb0 : z0.length ≤ cap0 := lc0
  clear hA0 hval0
  refine (FnSpeedFits_walk a0 z0 cap0 W rz0 lc0 lm0).mono fun e W' ⟨he, bel⟩ => ?_
  subst he
  exact ⟨_, rfl, _, _, _, [], _, [], hW', trodAll_mk1 (shut_bool Try.underlying4 _), (trodAll_cons_mk (Below.trod laid_out (by kernel_rfl) (of_decide_eq_true (by kernel_rfl)) k0 bel lt0) trodAll_mk0), rfl, bel.frame _, fun h => by cases h⟩

theorem FnSpeedFits_holds : Rows.FnSpeedFitsSaid :=
  OpenClaim.holds_of_wide 10 Try.f10 rfl rfl rfl rfl rfl rfl rfl ⟨rfl, rfl, rfl, rfl, rfl⟩ rfl rfl rfl rfl rfl (by kernel_rfl) Try.func10 (by kernel_rfl)
    (of_decide_eq_true (by kernel_rfl)) (by unfold Func.isWrapper; first | (rw [if_pos (by decide +kernel)]; kernel_rfl) | (rw [if_neg (by decide +kernel)]; exact ⟨rfl, rfl⟩))
    (fun os started H enc _ => FnSpeedFits_lifted os started H enc)
end Go.Proofs.Ythkeodpejhmkbaa
