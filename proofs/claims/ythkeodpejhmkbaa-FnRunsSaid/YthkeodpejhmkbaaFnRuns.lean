/- FnRuns: for every code, rows are together all samples. No condition. -/
import Derived.Test.YthkeodpejhmkbaaRunsLaw
import Derived.Test.YthkeodpejhmkbaaLine5
import Derived.Test.YthkeodpejhmkbaaSaidB
namespace Go.Proofs.Ythkeodpejhmkbaa
open Go.ChangeShapes Go.WideShapes Go.ChangeAt Go.RowKit

set_option maxHeartbeats 1000000 in
set_option maxRecDepth 100000 in
theorem FnRuns_walk (ao : Option Addr) (bs : List Int) (c : Nat) (w : World) (h : Bytes w ao bs) (hc : bs.length ≤ c) (_hm : c ≤ maxLen) :
    Calls Try.prog 6 #[.slice ao bs.length c] w fun e w' => e = .returned (.bool true) ∧ Below w.heap.size w w' := by
  unfold maxLen at _hm
  by_cases hn : (bs.length : Int) ≤ 1048576
  case neg =>
    have hn' : (1048576 : Int) < (bs.length : Int) := by omega
    go_enter Try.func6, Try.ntmps6
    go_wp2
    go_ret
    exact ⟨rfl, Below.refl _ _⟩
  go_enter Try.func6, Try.ntmps6
  go_wp2_with fail
  refine (drawRunsOf_any ao bs c w h hc (by omega)).mono ?_
  rintro e w1 ⟨a1, xs, c1, rfl, lx5, o1, b1⟩
  have i1 := o1.ints
  clear o1
  go_wp2_with fail
  refine (implRunsOf_any a1 xs c1 w1 i1 (by omega)).mono ?_
  rintro e w2 ⟨a2, c2, rfl, o2, b2⟩
  have B2 := below_join b1 b2
  have i1 := i1.below b2
  go_wp2_with fail
  refine (specRunsOf_any a1 xs c1 w2 i1 (by omega)).mono ?_
  rintro e w3 ⟨a3, c3, rfl, o3, b3⟩
  have B3 := below_join B2 b3
  have i1 := i1.below b3
  have i2 := o2.ints.below b3
  have i3 := o3.ints
  have hbd := runsL_bd xs
  have HR : Hid (runsL xs ≠ [] → sampB xs = true ∧ runsL xs = runs xs) := Lib.hid (fun h => by
    cases hs : sampB xs
    · exact absurd (by simp [runsL, hs]) h
    · exact ⟨rfl, by simp [runsL, hs]⟩)
  have HT := Lib.hid (fun hs : sampB xs = true => runsL_turn hs)
  obtain ⟨L, hL⟩ : ∃ L, L = runsL xs := ⟨_, rfl⟩
  rw [← hL] at i2 i3 hbd HR HT
  rw [← hL]
  have hbl := hbd.1
  have HBD := Lib.hid hbd.2
  clear o2 o3 b1 b2 b3 B2 hL hbd
  go_wp2_with fail
  refine (sameInts_below a2 a3 L L c2 c3 w3 i2 i3 (by omega) (by omega)).mono ?_
  rintro e w4 ⟨rfl, b4⟩
  have B4 := below_join B3 b4
  have i1 := i1.below b4
  have i2 := i2.below b4
  have i3 := i3.below b4
  clear B3 b4
  by_cases hz : L.length = 0
  · have hzI : (L.length : Int) = 0 := by omega
    have HZ := Lib.hid hz
    clear hz
    go_wp2_with fail
    refine (sameInts_below a2 a3 L L c2 c3 w4 i2 i3 (by omega) (by omega)).mono ?_
    rintro e w5 ⟨rfl, b5⟩
    go_wp2
    go_ret
    exact ⟨by simp, below_join B4 b5⟩
  have hzb : ((L.length : Int) == 0) = false := beq_eq_false_iff_ne.2 (by omega)
  have hne : L ≠ [] := fun e => hz (by rw [e]; rfl)
  have hR := HR.out hne
  have HS := Lib.hid hR.1
  have HE := Lib.hid hR.2
  clear hz hne hR HR i3
  have HSUM := Lib.hid (show L.sum = (xs.length : Int) by rw [HE.out]; exact runs_sum xs)
  go_wp2_with fail
  go_loopw [6, 7] (fun v i wr => ∃ (k : Nat) (S : Int), k ≤ L.length ∧ i = .int .i64 k ∧ v = .int .i64 S ∧ S = (L.take k).sum ∧ Below w4.heap.size w4 wr) (fun _ i _ => L.length - (intOf i).toNat)
  case atStart => exact ⟨0, 0, Nat.zero_le _, rfl, rfl, by simp, Below.refl _ _⟩
  case round =>
    obtain ⟨k, S, hk, rfl, rfl, hS, hb⟩ := hrel
    have hsb := sum_bd HBD.out k hk
    rw [← hS] at hsb
    have hs0 := hsb.1
    have hs1 := hsb.2
    have HSS := Lib.hid hS
    clear hsb hS
    by_cases hlt : k < L.length
    · obtain ⟨b, off, x, rfl, ex, x0⟩ := (i2.below hb).at_ hlt
      have hx := HBD.out x (List.mem_of_getElem? ex)
      have hx1 := hx.1
      have hx5 := hx.2
      have EX := Lib.hid ex
      clear ex hx
      go_wp2
      go_roundw
      case rel => exact ⟨k + 1, S + x, by omega, by go_num, by go_num, by rw [sum_step EX.out, ← HSS.out], hb⟩
      case measure => simp [intOf]; omega
    · have he : k = L.length := by omega
      have hq : (S == (xs.length : Int)) = true := by
        have h1 := HSS.out
        rw [he, List.take_length, HSUM.out] at h1
        simp [h1]
      clear he
      go_wp2
      go_ret
      exact ⟨by simp, B4.trans (hb.mono B4.size)⟩

set_option linter.unusedVariables false in
set_option maxRecDepth 100000 in
theorem FnRuns_lifted (os : Os) (started : os.Started) (H : Type) (enc : TypeId × Value → H) :
    ReturnsInHanded {} Try.checked os 6 .any (Rows.fnRunsSpec.pre6 enc Try.prog Try.f6 Rows.fnRunsRow.domain false) (Rows.fnRunsSpec.post enc Try.prog Try.f6 false true false false) := by
  refine returnsInHanded_of_change (C := Try.checked) own_knob started (by kernel_rfl) Try.func6
    (ChangeSpec.witness6 (enc := enc) (C := Try.checked) false ⟨#[], #[.slice none 0 0], []⟩ 8 (by kernel_rfl) (by kernel_rfl) (by kernel_rfl) (by kernel_rfl)) ?_
  intro W base args ds gs before hval0 hW hcnd _
  have hval : ∀ (j : Nat) t v, Try.f6.params[j]? = some t → args[j]? = some v → Value.okWide Try.prog W .any base t v := hval0
  have hW' := hW
  obtain ⟨p, q, hA0, hV, rfl, hfz, hnd⟩ := hW
  have hA : DataW.TrodAll enc Try.prog W 0 (fun _ => true) true Try.f6.params.toList args.toList ds p := hA0
  rw [Try.params6] at hA hval
  obtain ⟨v0, vs0, d0, ds0, p0, q0, hargs, rfl, rfl, h0, r0⟩ := trodAll_cons hA
  obtain ⟨rfl, rfl, rfl⟩ := trodAll_nil r0
  obtain rfl : args = #[v0] := by cases args; simp_all
  obtain ⟨rfl, rfl⟩ := trodVars_none hV
  have k0 := h0
  have lt0 : ∀ x ∈ p0, x.block < W.heap.size := by obtain ⟨m, hm⟩ := k0; exact DataW.trod_lt m _ _ _ hm
  obtain ⟨a0, len0, cap0, rfl⟩ := okWide_slice Try.underlying29 (hval 0 29 v0 rfl rfl)
  obtain ⟨z0, rfl, lc0, lm0, rz0⟩ : ∃ z : List Int, len0 = z.length ∧ z.length ≤ cap0 ∧ cap0 ≤ maxLen ∧ Bytes W a0 z := by
    obtain ⟨fuel, hf⟩ := h0
    obtain ⟨ao, cap, z, e, h1, h2, h3⟩ := rd_bytes hf
    simp [Value.cells] at e
    obtain ⟨rfl, rfl, rfl⟩ := e
    exact ⟨z, rfl, h1, h2, h3⟩
  have lb0 : z0.length ≤ cap0 := lc0
  clear hA0 hval0
  refine (FnRuns_walk a0 z0 cap0 W rz0 lc0 lm0).mono fun e W' ⟨he, bel⟩ => ?_
  subst he
  exact ⟨_, rfl, _, _, _, [], _, [], hW', trodAll_mk1 (shut_bool Try.underlying4 _), (trodAll_cons_mk (Below.trod laid_out (by kernel_rfl) (of_decide_eq_true (by kernel_rfl)) k0 bel lt0) trodAll_mk0), rfl, bel.frame _, fun h => by cases h⟩

theorem FnRuns_holds : Rows.FnRunsSaid :=
  OpenClaim.holds_of_wide 6 Try.f6 rfl rfl rfl rfl rfl rfl rfl ⟨rfl, rfl, rfl, rfl, rfl⟩ rfl rfl rfl rfl rfl (by kernel_rfl) Try.func6 (by kernel_rfl)
    (of_decide_eq_true (by kernel_rfl)) (by unfold Func.isWrapper; first | (rw [if_pos (by decide +kernel)]; kernel_rfl) | (rw [if_neg (by decide +kernel)]; exact ⟨rfl, rfl⟩))
    (fun os started H enc _ => FnRuns_lifted os started H enc)
end Go.Proofs.Ythkeodpejhmkbaa
