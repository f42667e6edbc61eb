/- FnExactTalkHear: for all arguments the program's TalkHear answers what the reference's answers, leaves its arguments as they were, and its result shares no memory. No condition. -/
import Derived.Test.YtjamcfnclnpdkaaTalk7
import Derived.Test.YtjamcfnclnpdkaaSaidB
namespace Go.Proofs.Ytjamcfnclnpdkaa
open Go.ChangeShapes Go.WideShapes Go.ChangeAt Go.RowKit

set_option maxHeartbeats 4000000 in
set_option maxRecDepth 100000 in
theorem FnExactTalkHear_walk (x0 : Int) (a1 : Option Addr) (z1 : List Int) (cap1 : Nat) (w : World) (_wx0 : -9223372036854775808 ≤ x0 ∧ x0 ≤ 9223372036854775807) (rz1 : Ints w a1 z1) (_lc1 : z1.length ≤ cap1) (_lm1 : cap1 ≤ maxLen) :
    Calls Try.prog 5 #[.int .i64 x0, .slice a1 z1.length cap1] w fun e w' => e = .returned (.bool true) ∧ Below w.heap.size w w' := by
  by_cases hn1 : (z1.length : Int) ≤ 1048576
  case neg =>
    have hn1' : (1048576 : Int) < (z1.length : Int) := by omega
    go_enter Try.func5, Try.ntmps5
    go_wp2
    go_ret
    refine ⟨rfl, ?_⟩
    repeat' (first | exact Below.refl _ _ | exact Nat.le_refl _ | assumption | refine Below.drew ?_ | refine below_drewN ?_ _ | (refine Below.alloc ?_ (by first | exact Nat.le_refl _ | omega | (simp; done) | (simp; omega)) _) | (refine Below.setCell ?_ (by first | exact Nat.le_refl _ | omega | (simp; done) | (simp; omega)) _))
  go_enter Try.func5, Try.ntmps5
  have B1 : Below w.heap.size w w := Below.refl _ _
  have lr := hearR_len x0 z1
  go_wp2_with fail
  refine (toIntS_any a1 z1 cap1 w (rz1.below B1) (by omega)).mono ?_
  rintro e w6 ⟨a2, c3, rfl, o4, b5⟩
  have zw6 := b5.size
  have B7 := B1.trans (b5.mono B1.size)
  clear B1
  have io4 := own_in o4
  go_wp2_with fail
  refine (specTalkHear_x x0 a2 z1 c3 _ w6 o4 (by omega)).mono ?_
  rintro e w12 ⟨a8, c9, rfl, o10, b11⟩
  have zw12 := b11.size
  have B13 := B7.trans (b11.mono B7.size)
  clear B7
  replace o4 := own_below o4 b11
  have io10 := own_in o10
  clear o4
  go_wp2_with fail
  refine (toIntS_any a1 z1 cap1 w12 (rz1.below B13) (by omega)).mono ?_
  rintro e w18 ⟨a14, c15, rfl, o16, b17⟩
  have zw18 := b17.size
  have B19 := B13.trans (b17.mono B13.size)
  clear B13
  replace o10 := own_below o10 b17
  have io16 := own_in o16
  go_wp2_with fail
  refine (implTalkHear_x x0 a14 z1 c15 _ w18 o16 (by omega)).mono ?_
  rintro e w24 ⟨a20, c21, rfl, o22, b23⟩
  have zw24 := b23.size
  have B25 := B19.trans (b23.mono B19.size)
  clear B19
  replace o10 := own_below o10 b23
  replace o16 := own_below o16 b23
  have io22 := own_in o22
  go_wp2_with fail
  refine (eqIntS_below a20 a8 ((hearR x0 z1).l) ((hearR x0 z1).l) c21 c9 w24 (own_cells o22) (own_cells o10) (by omega) (by omega)).mono ?_
  rintro e w27 ⟨rfl, b26⟩
  have zw27 := b26.size
  have B28 := B25.trans (b26.mono B25.size)
  clear B25
  replace o10 := own_below o10 b26
  replace o16 := own_below o16 b26
  replace o22 := own_below o22 b26
  go_wp2_with fail
  refine (toIntS_any a1 z1 cap1 w27 (rz1.below B28) (by omega)).mono ?_
  rintro e w33 ⟨a29, c30, rfl, o31, b32⟩
  have zw33 := b32.size
  have B34 := B28.trans (b32.mono B28.size)
  clear B28
  replace o10 := own_below o10 b32
  replace o16 := own_below o16 b32
  replace o22 := own_below o22 b32
  have io31 := own_in o31
  go_wp2_with fail
  refine (eqIntS_below a14 a29 z1 z1 c15 c30 w33 (own_cells o16) (own_cells o31) (by omega) (by omega)).mono ?_
  rintro e w36 ⟨rfl, b35⟩
  have zw36 := b35.size
  have B37 := B34.trans (b35.mono B34.size)
  clear B34
  replace o10 := own_below o10 b35
  replace o16 := own_below o16 b35
  replace o22 := own_below o22 b35
  replace o31 := own_below o31 b35
  clear o31
  go_wp2_with fail
  refine (markIntS_any _ a14 _ c15 1 _ w36 o16 (by omega) (by omega)).mono ?_
  rintro e w38 ⟨rfl, o39, g40⟩
  have zw38 := g40.size
  have B41 := below_mark B37 io16 (by omega) B37.size g40
  clear B37
  replace o10 := own_apart o10 io10 io16 (by omega) g40
  replace o22 := own_apart o22 io22 io16 (by omega) g40
  clear o16 g40
  clear o39
  go_wp2_with fail
  refine (eqIntS_below a20 a8 ((hearR x0 z1).l) ((hearR x0 z1).l) c21 c9 w38 (own_cells o22) (own_cells o10) (by omega) (by omega)).mono ?_
  rintro e w43 ⟨rfl, b42⟩
  have zw43 := b42.size
  have B44 := B41.trans (b42.mono B41.size)
  clear B41
  replace o10 := own_below o10 b42
  replace o22 := own_below o22 b42
  go_wp2_with fail
  refine (markIntS_any _ a20 _ c21 1 _ w43 o22 (by omega) (by omega)).mono ?_
  rintro e w45 ⟨rfl, o46, g47⟩
  have zw45 := g47.size
  have B48 := below_mark B44 io22 (by omega) B44.size g47
  clear B44
  replace o10 := own_apart o10 io10 io22 (by omega) g47
  clear o22 g47
  go_wp2_with fail
  refine (heldIntS_below a20 _ c21 1 w45 (own_cells o46) (by omega) (by omega)).mono ?_
  rintro e w50 ⟨rfl, b49⟩
  have zw50 := b49.size
  have B51 := B48.trans (b49.mono B48.size)
  clear B48
  replace o10 := own_below o10 b49
  replace o46 := own_below o46 b49
  go_wp2_with fail
  refine (toIntS_any a1 z1 cap1 w50 (rz1.below B51) (by omega)).mono ?_
  rintro e w56 ⟨a52, c53, rfl, o54, b55⟩
  have zw56 := b55.size
  have B57 := B51.trans (b55.mono B51.size)
  clear B51
  replace o10 := own_below o10 b55
  replace o46 := own_below o46 b55
  have io54 := own_in o54
  go_wp2_with fail
  refine (implTalkHear_x x0 a52 z1 c53 _ w56 o54 (by omega)).mono ?_
  rintro e w62 ⟨a58, c59, rfl, o60, b61⟩
  have zw62 := b61.size
  have B63 := B57.trans (b61.mono B57.size)
  clear B57
  replace o10 := own_below o10 b61
  replace o46 := own_below o46 b61
  replace o54 := own_below o54 b61
  have io60 := own_in o60
  clear o54
  go_wp2_with fail
  refine (eqIntS_below a58 a8 ((hearR x0 z1).l) ((hearR x0 z1).l) c59 c9 w62 (own_cells o60) (own_cells o10) (by omega) (by omega)).mono ?_
  rintro e w65 ⟨rfl, b64⟩
  have zw65 := b64.size
  have B66 := B63.trans (b64.mono B63.size)
  clear B63
  replace o10 := own_below o10 b64
  replace o46 := own_below o46 b64
  replace o60 := own_below o60 b64
  clear o60
  go_wp2_with fail
  refine (heldIntS_below a20 _ c21 1 w65 (own_cells o46) (by omega) (by omega)).mono ?_
  rintro e w68 ⟨rfl, b67⟩
  have zw68 := b67.size
  have B69 := B66.trans (b67.mono B66.size)
  clear B66
  replace o10 := own_below o10 b67
  replace o46 := own_below o46 b67
  go_wp2
  go_ret
  exact ⟨rfl, B69⟩

set_option linter.unusedVariables false in
set_option maxRecDepth 100000 in
theorem FnExactTalkHear_lifted (os : Os) (started : os.Started) (H : Type) (enc : TypeId × Value → H) :
    ReturnsInHanded {} Try.checked os 5 .any (Rows.fnExactTalkHearSpec.pre6 enc Try.prog Try.f5 Rows.fnExactTalkHearRow.domain false) (Rows.fnExactTalkHearSpec.post enc Try.prog Try.f5 false true false false) := by
  refine returnsInHanded_of_change (C := Try.checked) own_knob started (by kernel_rfl) Try.func5
    (ChangeSpec.witness6 (enc := enc) (C := Try.checked) false ⟨#[], #[.int .i64 0, .slice none 0 0], []⟩ 8 (by kernel_rfl) (by kernel_rfl) (by kernel_rfl) (by kernel_rfl)) ?_
  intro W base args ds gs before hval0 hW hcnd _
  have hval : ∀ (j : Nat) t v, Try.f5.params[j]? = some t → args[j]? = some v → Value.okWide Try.prog W .any base t v := hval0
  have hW' := hW
  obtain ⟨p, q, hA0, hV, rfl, hfz, hnd⟩ := hW
  have hA : DataW.TrodAll enc Try.prog W 0 (fun _ => true) true Try.f5.params.toList args.toList ds p := hA0
  rw [Try.params5] at hA hval
  obtain ⟨v0, vs0, d0, ds0, p0, q0, hargs, rfl, rfl, h0, r0⟩ := trodAll_cons hA
  obtain ⟨v1, vs1, d1, ds1, p1, q1, rfl, rfl, rfl, h1, r1⟩ := trodAll_cons r0
  obtain ⟨rfl, rfl, rfl⟩ := trodAll_nil r1
  obtain rfl : args = #[v0, v1] := by cases args; simp_all
  obtain ⟨rfl, rfl⟩ := trodVars_none hV
  obtain ⟨x0, rfl, rfl, rfl, wx0⟩ := open_int Try.underlying3 (hval 0 3 v0 rfl rfl) h0
  have k1 := h1
  have lt1 : ∀ x ∈ p1, x.block < W.heap.size := by obtain ⟨m, hm⟩ := k1; exact DataW.trod_lt m _ _ _ hm
  obtain ⟨a1, len1, cap1, rfl⟩ := okWide_slice Try.underlying23 (hval 1 23 v1 rfl rfl)
  obtain ⟨z1, rfl, lc1, lm1, rz1⟩ : ∃ z : List Int, len1 = z.length ∧ z.length ≤ cap1 ∧ cap1 ≤ maxLen ∧ Ints W a1 z := by
    obtain ⟨fuel, hf⟩ := h1
    obtain ⟨ao, cap, z, e, h1, h2, h3⟩ := rd_ints Try.underlying23 Try.underlying3 (by kernel_rfl) hf
    simp [Value.cells] at e
    obtain ⟨rfl, rfl, rfl⟩ := e
    exact ⟨z, rfl, h1, h2, h3⟩
  have lb1 : z1.length ≤ cap1 := lc1
  clear hA0 hval0
  refine (FnExactTalkHear_walk x0 a1 z1 cap1 W (bd_i64 wx0) rz1 lc1 lm1).mono fun e W' ⟨he, bel⟩ => ?_
  subst he
  exact ⟨_, rfl, _, _, _, [], _, [], hW', trodAll_mk1 (shut_bool Try.underlying4 _), (trodAll_cons_mk (shut_int Try.underlying3 wx0) (trodAll_cons_mk (Below.trod laid_out (by kernel_rfl) (of_decide_eq_true (by kernel_rfl)) k1 bel lt1) trodAll_mk0)), rfl, bel.frame _, fun h => by cases h⟩

theorem FnExactTalkHear_holds : Rows.FnExactTalkHearSaid :=
  OpenClaim.holds_of_wide 5 Try.f5 rfl rfl rfl rfl rfl rfl rfl ⟨rfl, rfl, rfl, rfl, rfl⟩ rfl rfl rfl rfl rfl (by kernel_rfl) Try.func5 (by kernel_rfl)
    (of_decide_eq_true (by kernel_rfl)) (by unfold Func.isWrapper; first | (rw [if_pos (by decide +kernel)]; kernel_rfl) | (rw [if_neg (by decide +kernel)]; exact ⟨rfl, rfl⟩))
    (fun os started H enc _ => FnExactTalkHear_lifted os started H enc)
end Go.Proofs.Ytjamcfnclnpdkaa
