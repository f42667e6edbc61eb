/- FnHearAnswer: for every code, what the statement says of one who hears. No condition. -/
import Derived.Test.YtjamcfnclnpdkaaTalkLaw
import Derived.Test.YtjamcfnclnpdkaaSaidB
namespace Go.Proofs.Ytjamcfnclnpdkaa
open Go.ChangeShapes Go.WideShapes Go.ChangeAt Go.RowKit

set_option maxHeartbeats 4000000 in
set_option maxRecDepth 100000 in
theorem FnHearAnswer_walk (a0 : Option Addr) (z0 : List Int) (cap0 : Nat) (w : World) (rz0 : Bytes w a0 z0) (lc0 : z0.length ≤ cap0) (_lm0 : cap0 ≤ maxLen) :
    Calls Try.prog 10 #[.slice a0 z0.length cap0] w fun e w' => e = .returned (.bool true) ∧ Below w.heap.size w w' := by
  unfold maxLen at _lm0
  by_cases hn0 : (z0.length : Int) ≤ 1048576
  case neg =>
    have hn0' : (1048576 : Int) < (z0.length : Int) := by omega
    go_enter Try.func10, Try.ntmps10
    go_wp2
    go_ret
    exact ⟨rfl, Below.refl _ _⟩
  go_enter Try.func10, Try.ntmps10
  have B1 : Below w.heap.size w w := Below.refl _ _
  go_wp2_with fail
  refine (drawTalkHear_any a0 z0 cap0 w rz0 lc0 (by omega)).mono ?_
  rintro e w2 ⟨x, a, xs, c, rfl, lx, hcx, ix, b3⟩
  have zw2 := b3.size
  have B4 := B1.trans (b3.mono B1.size)
  clear B1
  have HI := Lib.hid (fun v h => implTalkHear_any x a xs c v h hcx (by omega))
  have HJ := Lib.hid (fun v h => specTalkHear_any x a xs c v h hcx (by omega))
  rcases hear_cases x xs with hR | ⟨T, x0, x1, lT, lT2, hs, hL, hR⟩ | ⟨u, T, hux, x0, x1, u0, u1, lT, lT2, hs, hL, hR⟩
  · rw [hR] at HI HJ
    clear hR
    go_wp2_with fail
    refine (HI.out w2 ix).mono ?_
    rintro e w5 ⟨⟨a1, c1, rfl, o1⟩, b6⟩
    have zw5 := b6.size
    have B7 := B4.trans (b6.mono B4.size)
    clear B4
    replace ix := Ints.below ix b6
    have i1 : Ints w5 a1 [] := own_cells o1
    clear o1
    go_wp2_with fail
    refine (HJ.out w5 ix).mono ?_
    rintro e w8 ⟨⟨a2, c2, rfl, o2⟩, b9⟩
    have zw8 := b9.size
    have B10 := B7.trans (b9.mono B7.size)
    clear B7
    replace ix := Ints.below ix b9
    replace i1 := Ints.below i1 b9
    have i2 : Ints w8 a2 [] := own_cells o2
    clear o2
    go_wp2_with fail
    refine (sameInts_below a1 a2 [] [] c1 c2 w8 i1 i2 (by first | omega | simp) (by first | omega | simp)).mono ?_
    rintro e w11 ⟨rfl, b12⟩
    have zw11 := b12.size
    have B13 := B10.trans (b12.mono B10.size)
    clear B10
    replace ix := Ints.below ix b12
    replace i1 := Ints.below i1 b12
    replace i2 := Ints.below i2 b12
    go_wp2_with fail
    refine (sameInts_below a1 a2 [] [] c1 c2 w11 i1 i2 (by first | omega | simp) (by first | omega | simp)).mono ?_
    rintro e w14 ⟨rfl, b15⟩
    have zw14 := b15.size
    have B16 := B13.trans (b15.mono B13.size)
    clear B13
    replace ix := Ints.below ix b15
    replace i1 := Ints.below i1 b15
    replace i2 := Ints.below i2 b15
    go_wp2
    go_ret
    exact ⟨rfl, B16⟩
  · have HS := Lib.hid (fun v h => implSumTake_any a xs c v h hcx (by omega))
    rw [hs, hL] at HS
    clear hs hL
    rw [hR] at HI HJ
    clear hR
    go_wp2_with fail
    refine (HI.out w2 ix).mono ?_
    rintro e w17 ⟨⟨a1, c1, rfl, o1⟩, b18⟩
    have zw17 := b18.size
    have B19 := B4.trans (b18.mono B4.size)
    clear B4
    replace ix := Ints.below ix b18
    have i1 : Ints w17 a1 T := own_cells o1
    clear o1
    go_wp2_with fail
    refine (HJ.out w17 ix).mono ?_
    rintro e w20 ⟨⟨a2, c2, rfl, o2⟩, b21⟩
    have zw20 := b21.size
    have B22 := B19.trans (b21.mono B19.size)
    clear B19
    replace ix := Ints.below ix b21
    replace i1 := Ints.below i1 b21
    have i2 : Ints w20 a2 T := own_cells o2
    clear o2
    go_wp2_with fail
    refine (sameInts_below a1 a2 T T c1 c2 w20 i1 i2 (by first | omega | simp) (by first | omega | simp)).mono ?_
    rintro e w23 ⟨rfl, b24⟩
    have zw23 := b24.size
    have B25 := B22.trans (b24.mono B22.size)
    clear B22
    replace ix := Ints.below ix b24
    replace i1 := Ints.below i1 b24
    replace i2 := Ints.below i2 b24
    go_wp2_with fail
    refine (HS.out w23 ix).mono ?_
    rintro e w26 ⟨a3, c3, rfl, o3, b27⟩
    have zw26 := b27.size
    have B28 := B25.trans (b27.mono B25.size)
    clear B25
    replace ix := Ints.below ix b27
    replace i1 := Ints.below i1 b27
    replace i2 := Ints.below i2 b27
    obtain ⟨g3, rfl, cg3, hc3, i3⟩ := own_cons o3
    have hc4 : (1 : Int) < (c3 : Int) := by omega
    have hc5 : c3 ≠ 1 := by omega
    have hc6 : (T.length : Int) + 1 ≤ (c3 : Int) := by omega
    have hc7 : (1 : Int) ≤ (T.length : Int) + 1 := by omega
    clear o3
    go_wp2_with fail
    refine (sameInts_below a1 (some ⟨g3, 1, none⟩) T T c1 (c3 - 1) w26 i1 i3 (by omega) (by omega)).mono ?_
    rintro e w29 ⟨rfl, b30⟩
    have zw29 := b30.size
    have B31 := B28.trans (b30.mono B28.size)
    clear B28
    replace ix := Ints.below ix b30
    replace i1 := Ints.below i1 b30
    replace i2 := Ints.below i2 b30
    replace i3 := Ints.below i3 b30
    go_wp2
    go_ret
    exact ⟨rfl, B31⟩
  · have HS := Lib.hid (fun v h => implSumTake_any a xs c v h hcx (by omega))
    rw [hs, hL] at HS
    have hb : (u != x) = true := by simpa using hux
    clear hs hL hux
    rw [hR] at HI HJ
    clear hR
    go_wp2_with fail
    refine (HI.out w2 ix).mono ?_
    rintro e w32 ⟨⟨a1, c1, rfl, o1⟩, b33⟩
    have zw32 := b33.size
    have B34 := B4.trans (b33.mono B4.size)
    clear B4
    replace ix := Ints.below ix b33
    have i1 : Ints w32 a1 [] := own_cells o1
    clear o1
    go_wp2_with fail
    refine (HJ.out w32 ix).mono ?_
    rintro e w35 ⟨⟨a2, c2, rfl, o2⟩, b36⟩
    have zw35 := b36.size
    have B37 := B34.trans (b36.mono B34.size)
    clear B34
    replace ix := Ints.below ix b36
    replace i1 := Ints.below i1 b36
    have i2 : Ints w35 a2 [] := own_cells o2
    clear o2
    go_wp2_with fail
    refine (sameInts_below a1 a2 [] [] c1 c2 w35 i1 i2 (by first | omega | simp) (by first | omega | simp)).mono ?_
    rintro e w38 ⟨rfl, b39⟩
    have zw38 := b39.size
    have B40 := B37.trans (b39.mono B37.size)
    clear B37
    replace ix := Ints.below ix b39
    replace i1 := Ints.below i1 b39
    replace i2 := Ints.below i2 b39
    go_wp2_with fail
    refine (HS.out w38 ix).mono ?_
    rintro e w41 ⟨a3, c3, rfl, o3, b42⟩
    have zw41 := b42.size
    have B43 := B40.trans (b42.mono B40.size)
    clear B40
    replace ix := Ints.below ix b42
    replace i1 := Ints.below i1 b42
    replace i2 := Ints.below i2 b42
    obtain ⟨g3, rfl, cg3, hc3, i3⟩ := own_cons o3
    have hc4 : (1 : Int) < (c3 : Int) := by omega
    have hc5 : c3 ≠ 1 := by omega
    have hc6 : (T.length : Int) + 1 ≤ (c3 : Int) := by omega
    have hc7 : (1 : Int) ≤ (T.length : Int) + 1 := by omega
    clear o3
    go_wp2
    go_ret
    exact ⟨rfl, B43⟩

set_option linter.unusedVariables false in
set_option maxRecDepth 100000 in
theorem FnHearAnswer_lifted (os : Os) (started : os.Started) (H : Type) (enc : TypeId × Value → H) :
    ReturnsInHanded {} Try.checked os 10 .any (Rows.fnHearAnswerSpec.pre6 enc Try.prog Try.f10 Rows.fnHearAnswerRow.domain false) (Rows.fnHearAnswerSpec.post enc Try.prog Try.f10 false true false false) := by
  refine returnsInHanded_of_change (C := Try.checked) own_knob started (by kernel_rfl) Try.func10
    (ChangeSpec.witness6 (enc := enc) (C := Try.checked) false ⟨#[], #[.slice none 0 0], []⟩ 8 (by kernel_rfl) (by kernel_rfl) (by kernel_rfl) (by kernel_rfl)) ?_
  intro W base args ds gs before hval0 hW hcnd _
  have hval : ∀ (j : Nat) t v, Try.f10.params[j]? = some t → args[j]? = some v → Value.okWide Try.prog W .any base t v := hval0
  have hW' := hW
  obtain ⟨p, q, hA0, hV, rfl, hfz, hnd⟩ := hW
  have hA : DataW.TrodAll enc Try.prog W 0 (fun _ => true) true Try.f10.params.toList args.toList ds p := hA0
  rw [Try.params10] at hA hval
  obtain ⟨v0, vs0, d0, ds0, p0, q0, hargs, rfl, rfl, h0, r0⟩ := trodAll_cons hA
  obtain ⟨rfl, rfl, rfl⟩ := trodAll_nil r0
  obtain rfl : args = #[v0] := by cases args; simp_all
  obtain ⟨rfl, rfl⟩ := trodVars_none hV
  have k0 := h0
  have lt0 : ∀ x ∈ p0, x.block < W.heap.size := by obtain ⟨m, hm⟩ := k0; exact DataW.trod_lt m _ _ _ hm
  obtain ⟨a0, len0, cap0, rfl⟩ := okWide_slice Try.underlying22 (hval 0 22 v0 rfl rfl)
  obtain ⟨z0, rfl, lc0, lm0, rz0⟩ : ∃ z : List Int, len0 = z.length ∧ z.length ≤ cap0 ∧ cap0 ≤ maxLen ∧ Bytes W a0 z := by
    obtain ⟨fuel, hf⟩ := h0
    obtain ⟨ao, cap, z, e, h1, h2, h3⟩ := rd_bytes hf
    simp [Value.cells] at e
    obtain ⟨rfl, rfl, rfl⟩ := e
    exact ⟨z, rfl, h1, h2, h3⟩
  have lb0 : z0.length ≤ cap0 := lc0
  clear hA0 hval0
  refine (FnHearAnswer_walk a0 z0 cap0 W rz0 lc0 lm0).mono fun e W' ⟨he, bel⟩ => ?_
  subst he
  exact ⟨_, rfl, _, _, _, [], _, [], hW', trodAll_mk1 (shut_bool Try.underlying4 _), (trodAll_cons_mk (Below.trod laid_out (by kernel_rfl) (of_decide_eq_true (by kernel_rfl)) k0 bel lt0) trodAll_mk0), rfl, bel.frame _, fun h => by cases h⟩

theorem FnHearAnswer_holds : Rows.FnHearAnswerSaid :=
  OpenClaim.holds_of_wide 10 Try.f10 rfl rfl rfl rfl rfl rfl rfl ⟨rfl, rfl, rfl, rfl, rfl⟩ rfl rfl rfl rfl rfl (by kernel_rfl) Try.func10 (by kernel_rfl)
    (of_decide_eq_true (by kernel_rfl)) (by unfold Func.isWrapper; first | (rw [if_pos (by decide +kernel)]; kernel_rfl) | (rw [if_neg (by decide +kernel)]; exact ⟨rfl, rfl⟩))
    (fun os started H enc _ => FnHearAnswer_lifted os started H enc)
end Go.Proofs.Ytjamcfnclnpdkaa
