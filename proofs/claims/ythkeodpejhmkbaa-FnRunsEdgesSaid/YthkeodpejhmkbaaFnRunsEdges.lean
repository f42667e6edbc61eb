/- FnRunsEdges: for every code, between two rows samples change. No condition. -/
import Derived.Test.YthkeodpejhmkbaaRunsLaw
import Derived.Test.YthkeodpejhmkbaaLine5
import Derived.Test.YthkeodpejhmkbaaSaidB
namespace Go.Proofs.Ythkeodpejhmkbaa
open Go.ChangeShapes Go.WideShapes Go.ChangeAt Go.RowKit

set_option maxHeartbeats 1000000 in
set_option maxRecDepth 100000 in
theorem FnRunsEdges_walk (ao : Option Addr) (bs : List Int) (c : Nat) (w : World) (h : Bytes w ao bs) (hc : bs.length ≤ c) (_hm : c ≤ maxLen) :
    Calls Try.prog 7 #[.slice ao bs.length c] w fun e w' => e = .returned (.bool true) ∧ Below w.heap.size w w' := by
  unfold maxLen at _hm
  by_cases hn : (bs.length : Int) ≤ 1048576
  case neg =>
    have hn' : (1048576 : Int) < (bs.length : Int) := by omega
    go_enter Try.func7, Try.ntmps7
    go_wp2
    go_ret
    exact ⟨rfl, Below.refl _ _⟩
  go_enter Try.func7, Try.ntmps7
  go_wp2_with fail
  refine (drawRunsOf_any ao bs c w h hc (by omega)).mono ?_
  rintro e w1 ⟨a1, xs, c1, rfl, lx5, o1, b1⟩
  have i1 := o1.ints
  clear o1
  go_wp2_with fail
  refine (implRunsOf_any a1 xs c1 w1 i1 (by omega)).mono ?_
  rintro e w2 ⟨a2, c2, rfl, o2, b2⟩
  have B2 := below_join b1 b2
  have i1 := i1.below b2
  go_wp2_with fail
  refine (specRunsOf_any a1 xs c1 w2 i1 (by omega)).mono ?_
  rintro e w3 ⟨a3, c3, rfl, o3, b3⟩
  have B3 := below_join B2 b3
  have i1 := i1.below b3
  have i2 := o2.ints.below b3
  have i3 := o3.ints
  have hbd := runsL_bd xs
  have HR : Hid (runsL xs ≠ [] → sampB xs = true ∧ runsL xs = runs xs) := Lib.hid (fun h => by
    cases hs : sampB xs
    · exact absurd (by simp [runsL, hs]) h
    · exact ⟨rfl, by simp [runsL, hs]⟩)
  have HT := Lib.hid (fun hs : sampB xs = true => runsL_turn hs)
  obtain ⟨L, hL⟩ : ∃ L, L = runsL xs := ⟨_, rfl⟩
  rw [← hL] at i2 i3 hbd HR HT
  rw [← hL]
  have hbl := hbd.1
  have HBD := Lib.hid hbd.2
  clear o2 o3 b1 b2 b3 B2 hL hbd
  go_wp2_with fail
  refine (sameInts_below a2 a3 L L c2 c3 w3 i2 i3 (by omega) (by omega)).mono ?_
  rintro e w4 ⟨rfl, b4⟩
  have B4 := below_join B3 b4
  have i1 := i1.below b4
  have i2 := i2.below b4
  have i3 := i3.below b4
  clear B3 b4
  by_cases hz : L.length = 0
  · have hzI : (L.length : Int) = 0 := by omega
    have HZ := Lib.hid hz
    clear hz
    go_wp2_with fail
    refine (sameInts_below a2 a3 L L c2 c3 w4 i2 i3 (by omega) (by omega)).mono ?_
    rintro e w5 ⟨rfl, b5⟩
    go_wp2
    go_ret
    exact ⟨by simp, below_join B4 b5⟩
  have hzb : ((L.length : Int) == 0) = false := beq_eq_false_iff_ne.2 (by omega)
  have hne : L ≠ [] := fun e => hz (by rw [e]; rfl)
  have hR := HR.out hne
  have HS := Lib.hid hR.1
  have HE := Lib.hid hR.2
  clear hz hne hR HR i3
  have hxl : 1 ≤ xs.length := by
    rcases Nat.eq_zero_or_pos xs.length with h0 | h0
    · have := List.eq_nil_of_length_eq_zero h0
      subst this
      have h2 := HE.out
      simp [runs, rows_nil] at h2
      subst h2
      simp at hzb
    · exact h0
  obtain ⟨x00, hx00⟩ : ∃ y, xs[0]? = some y := ⟨_, List.getElem?_eq_getElem (by omega)⟩
  have HX0 := Lib.hid hx00
  clear hx00
  go_wp2_with fail
  go_loopw [6, 7] (fun v i wr => ∃ (j S : Nat), j + 1 ≤ xs.length ∧ i = .int .i64 ((j : Int) + 1) ∧ v = .int .i64 (S : Int) ∧ S = (rows (xs.take (j + 1))).length ∧ S ≤ j + 1 ∧ Below w4.heap.size w4 wr) (fun _ i _ => xs.length - (intOf i).toNat)
  case atStart => exact ⟨0, 1, by omega, by go_num, by go_num, (rows_one HX0.out).symm, by omega, Below.refl _ _⟩
  case round =>
    obtain ⟨j, S, hk, rfl, rfl, hS, hSj, hb⟩ := hrel
    have HSS := Lib.hid hS
    clear hS
    by_cases hlt : j + 1 < xs.length
    · obtain ⟨b, off, x, rfl, ex, x0⟩ := (i1.below hb).at_ (show j < xs.length by omega)
      obtain ⟨b', off', y, hbe, ey, y0⟩ := (i1.below hb).at_ hlt
      injection hbe with hbe
      injection hbe with hbe1 hbe2 _
      subst hbe1 hbe2
      have ED := Lib.hid (rows_edge ex ey)
      have hj0 : (0 : Int) ≤ (j : Int) + 1 := by omega
      have hj1 : (j : Int) + 1 < (xs.length : Int) := by omega
      have hj2 : (j : Int) < (xs.length : Int) := by omega
      have hjn : ((j : Int) + 1).toNat = j + 1 := by omega
      clear ex ey
      by_cases hxy : y = x
      · have hbb : (y != x) = false := by simpa using hxy
        have HXY := Lib.hid hxy
        clear hxy
        go_wp2
        go_quiet (fail)
        go_wp2
        go_roundw
        case rel => exact ⟨j + 1, S, by omega, by go_num, rfl, by rw [ED.out, if_pos HXY.out, HSS.out]; omega, by omega, below_drewN hb _⟩
        case measure => simp [intOf]; omega
      · have hbb : (y != x) = true := by simpa using hxy
        have HXY := Lib.hid hxy
        clear hxy
        go_wp2
        go_quiet (fail)
        go_wp2
        go_roundw
        case rel => exact ⟨j + 1, S + 1, by omega, by go_num, by go_num, by rw [ED.out, if_neg HXY.out, HSS.out], by omega, below_drewN hb _⟩
        case measure => simp [intOf]; omega
    · have he : j + 1 = xs.length := by omega
      have heI : (xs.length : Int) ≤ (j : Int) + 1 := by omega
      have hq : ((S : Int) == (L.length : Int)) = true := by
        have h1 := HSS.out
        rw [he, List.take_length] at h1
        have h2 : L.length = (rows xs).length := by rw [HE.out]; simp [runs]
        simp; omega
      clear he
      go_wp2
      go_ret
      exact ⟨by simp, B4.trans (hb.mono B4.size)⟩

set_option linter.unusedVariables false in
set_option maxRecDepth 100000 in
theorem FnRunsEdges_lifted (os : Os) (started : os.Started) (H : Type) (enc : TypeId × Value → H) :
    ReturnsInHanded {} Try.checked os 7 .any (Rows.fnRunsEdgesSpec.pre6 enc Try.prog Try.f7 Rows.fnRunsEdgesRow.domain false) (Rows.fnRunsEdgesSpec.post enc Try.prog Try.f7 false true false false) := by
  refine returnsInHanded_of_change (C := Try.checked) own_knob started (by kernel_rfl) Try.func7
    (ChangeSpec.witness6 (enc := enc) (C := Try.checked) false ⟨#[], #[.slice none 0 0], []⟩ 8 (by kernel_rfl) (by kernel_rfl) (by kernel_rfl) (by kernel_rfl)) ?_
  intro W base args ds gs before hval0 hW hcnd _
  have hval : ∀ (j : Nat) t v, Try.f7.params[j]? = some t → args[j]? = some v → Value.okWide Try.prog W .any base t v := hval0
  have hW' := hW
  obtain ⟨p, q, hA0, hV, rfl, hfz, hnd⟩ := hW
  have hA : DataW.TrodAll enc Try.prog W 0 (fun _ => true) true Try.f7.params.toList args.toList ds p := hA0
  rw [Try.params7] at hA hval
  obtain ⟨v0, vs0, d0, ds0, p0, q0, hargs, rfl, rfl, h0, r0⟩ := trodAll_cons hA
  obtain ⟨rfl, rfl, rfl⟩ := trodAll_nil r0
  obtain rfl : args = #[v0] := by cases args; simp_all
  obtain ⟨rfl, rfl⟩ := trodVars_none hV
  have k0 := h0
  have lt0 : ∀ x ∈ p0, x.block < W.heap.size := by obtain ⟨m, hm⟩ := k0; exact DataW.trod_lt m _ _ _ hm
  obtain ⟨a0, len0, cap0, rfl⟩ := okWide_slice Try.underlying29 (hval 0 29 v0 rfl rfl)
  obtain ⟨z0, rfl, lc0, lm0, rz0⟩ : ∃ z : List Int, len0 = z.length ∧ z.length ≤ cap0 ∧ cap0 ≤ maxLen ∧ Bytes W a0 z := by
    obtain ⟨fuel, hf⟩ := h0
    obtain ⟨ao, cap, z, e, h1, h2, h3⟩ := rd_bytes hf
    simp [Value.cells] at e
    obtain ⟨rfl, rfl, rfl⟩ := e
    exact ⟨z, rfl, h1, h2, h3⟩
  have lb0 : z0.length ≤ cap0 := lc0
  clear hA0 hval0
  refine (FnRunsEdges_walk a0 z0 cap0 W rz0 lc0 lm0).mono fun e W' ⟨he, bel⟩ => ?_
  subst he
  exact ⟨_, rfl, _, _, _, [], _, [], hW', trodAll_mk1 (shut_bool Try.underlying4 _), (trodAll_cons_mk (Below.trod laid_out (by kernel_rfl) (of_decide_eq_true (by kernel_rfl)) k0 bel lt0) trodAll_mk0), rfl, bel.frame _, fun h => by cases h⟩

theorem FnRunsEdges_holds : Rows.FnRunsEdgesSaid :=
  OpenClaim.holds_of_wide 7 Try.f7 rfl rfl rfl rfl rfl rfl rfl ⟨rfl, rfl, rfl, rfl, rfl⟩ rfl rfl rfl rfl rfl (by kernel_rfl) Try.func7 (by kernel_rfl)
    (of_decide_eq_true (by kernel_rfl)) (by unfold Func.isWrapper; first | (rw [if_pos (by decide +kernel)]; kernel_rfl) | (rw [if_neg (by decide +kernel)]; exact ⟨rfl, rfl⟩))
    (fun os started H enc _ => FnRunsEdges_lifted os started H enc)
end Go.Proofs.Ythkeodpejhmkbaa
