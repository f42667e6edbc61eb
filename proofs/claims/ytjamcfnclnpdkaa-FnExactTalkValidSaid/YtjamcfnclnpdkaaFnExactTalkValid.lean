/- FnExactTalkValid: for every talk the program's TalkValid answers what the reference's answers, and leaves its argument as it was. No condition. -/
import Derived.Test.YtjamcfnclnpdkaaTalk7
import Derived.Test.YtjamcfnclnpdkaaSaidB
namespace Go.Proofs.Ytjamcfnclnpdkaa
open Go.ChangeShapes Go.WideShapes Go.ChangeAt Go.RowKit

set_option maxHeartbeats 4000000 in
set_option maxRecDepth 100000 in
theorem FnExactTalkValid_walk (n0 : Int) (t0 : Int) (a0 : Option Addr) (z0 : List Int) (cap0 : Nat) (w : World) (rz0 : Ints w a0 z0) (_lc0 : z0.length ≤ cap0) (lm0 : cap0 ≤ maxLen) :
    Calls Try.prog 4 #[.agg #[.int .i64 n0, .int .i64 t0, .slice a0 z0.length cap0]] w fun e w' => e = .returned (.bool true) ∧ Below w.heap.size w w' := by
  unfold maxLen at lm0
  by_cases hn0 : (z0.length : Int) ≤ 1048576
  case neg =>
    have hn0' : (1048576 : Int) < (z0.length : Int) := by omega
    go_enter Try.func4, Try.ntmps4
    go_wp2_with fail
    refine name_calls fun W1 hW1 => ?_
    have B2 : Below w.heap.size w W1 := by
      rw [hW1]
      repeat' (first | exact Below.refl _ _ | exact Nat.le_refl _ | assumption | refine Below.drew ?_ | refine below_drewN ?_ _ | (refine Below.alloc ?_ (by first | exact Nat.le_refl _ | omega | (simp; done) | (simp; omega)) _) | (refine Below.setCell ?_ (by first | exact Nat.le_refl _ | omega | (simp; done) | (simp; omega)) _))
    have H3 := Lib.hid (show W1.heap[w.heap.size]? = some (.cells #[.int .i64 n0, .int .i64 t0, .slice a0 z0.length cap0] 29 (0, 0)) by rw [hW1]; exact heap_new_at _ _ _ rfl)
    have zW1 : W1.heap.size = w.heap.size + 1 := by rw [hW1]; simp
    clear hW1
    refine (szTalk_no n0 t0 a0 _ cap0 1048576 W1 hn0' (by omega) (by omega)).mono ?_
    rintro e w5 ⟨rfl, b4⟩
    have zw5 := b4.size
    have B6 := B2.trans (b4.mono B2.size)
    clear B2
    replace H3 := Lib.hid ((b4.block _ (Array.getElem?_eq_some_iff.1 H3.out).1).trans H3.out)
    go_wp2
    go_ret
    exact ⟨rfl, B6⟩
  go_enter Try.func4, Try.ntmps4
  go_wp2_with fail
  refine name_calls fun W7 hW7 => ?_
  have B8 : Below w.heap.size w W7 := by
    rw [hW7]
    repeat' (first | exact Below.refl _ _ | exact Nat.le_refl _ | assumption | refine Below.drew ?_ | refine below_drewN ?_ _ | (refine Below.alloc ?_ (by first | exact Nat.le_refl _ | omega | (simp; done) | (simp; omega)) _) | (refine Below.setCell ?_ (by first | exact Nat.le_refl _ | omega | (simp; done) | (simp; omega)) _))
  have H9 := Lib.hid (show W7.heap[w.heap.size]? = some (.cells #[.int .i64 n0, .int .i64 t0, .slice a0 z0.length cap0] 29 (0, 0)) by rw [hW7]; exact heap_new_at _ _ _ rfl)
  have zW7 : W7.heap.size = w.heap.size + 1 := by rw [hW7]; simp
  clear hW7
  refine (szTalk_yes n0 t0 a0 _ cap0 1048576 W7 hn0 (by omega)).mono ?_
  rintro e w11 ⟨rfl, b10⟩
  have zw11 := b10.size
  have B12 := B8.trans (b10.mono B8.size)
  clear B8
  replace H9 := Lib.hid ((b10.block _ (Array.getElem?_eq_some_iff.1 H9.out).1).trans H9.out)
  obtain ⟨cc13, cc14, cc15⟩ := cells3 H9.out
  go_wp2_with fail
  clear cc13 cc14 cc15
  refine (toTalk_any n0 t0 a0 z0 cap0 w11 (rz0.below B12) (by omega)).mono ?_
  rintro e w20 ⟨a16, c17, rfl, o18, b19⟩
  have zw20 := b19.size
  have B21 := B12.trans (b19.mono B12.size)
  clear B12
  replace H9 := Lib.hid ((b19.block _ (Array.getElem?_eq_some_iff.1 H9.out).1).trans H9.out)
  have io18 := own_in o18
  go_wp2_with fail
  refine (specTalkValid_x n0 t0 a16 z0 c17 _ w20 o18 (by omega)).mono ?_
  rintro e w23 ⟨rfl, b22⟩
  have zw23 := b22.size
  have B24 := B21.trans (b22.mono B21.size)
  clear B21
  replace o18 := own_below o18 b22
  replace H9 := Lib.hid ((b22.block _ (Array.getElem?_eq_some_iff.1 H9.out).1).trans H9.out)
  clear o18
  obtain ⟨cc25, cc26, cc27⟩ := cells3 H9.out
  go_wp2_with fail
  clear cc25 cc26 cc27
  refine (toTalk_any n0 t0 a0 z0 cap0 w23 (rz0.below B24) (by omega)).mono ?_
  rintro e w32 ⟨a28, c29, rfl, o30, b31⟩
  have zw32 := b31.size
  have B33 := B24.trans (b31.mono B24.size)
  clear B24
  replace H9 := Lib.hid ((b31.block _ (Array.getElem?_eq_some_iff.1 H9.out).1).trans H9.out)
  have io30 := own_in o30
  go_wp2_with fail
  refine name_calls fun W34 hW34 => ?_
  have zW34 : W34.heap.size = w32.heap.size + 1 := by rw [hW34]; simp
  have H350 := heap_new_at w32 (.cells #[.int .i64 n0, .int .i64 t0, .slice a28 z0.length c29] 25 (0, 0)) _ rfl
  rw [← hW34] at H350
  have H35 := Lib.hid H350
  clear H350
  have B36 := B33.alloc B33.size (.cells #[.int .i64 n0, .int .i64 t0, .slice a28 z0.length c29] 25 (0, 0))
  rw [← hW34] at B36
  clear B33
  replace o30 := World.ownsRow.alloc o30 (.cells #[.int .i64 n0, .int .i64 t0, .slice a28 z0.length c29] 25 (0, 0))
  rw [← hW34] at o30
  have H90 := (Below.heap_alloc w32 (.cells #[.int .i64 n0, .int .i64 t0, .slice a28 z0.length c29] 25 (0, 0)) _ (Array.getElem?_eq_some_iff.1 H9.out).1).trans H9.out
  rw [← hW34] at H90
  clear H9
  have H9 := Lib.hid H90
  clear H90
  clear hW34
  refine (implTalkValid_x n0 t0 a28 z0 c29 _ W34 o30 (by omega)).mono ?_
  rintro e w38 ⟨rfl, b37⟩
  have zw38 := b37.size
  have B39 := B36.trans (b37.mono B36.size)
  clear B36
  replace o30 := own_below o30 b37
  replace H9 := Lib.hid ((b37.block _ (Array.getElem?_eq_some_iff.1 H9.out).1).trans H9.out)
  replace H35 := Lib.hid ((b37.block _ (Array.getElem?_eq_some_iff.1 H35.out).1).trans H35.out)
  obtain ⟨cc40, cc41, cc42⟩ := cells3 H35.out
  obtain ⟨cc43, cc44, cc45⟩ := cells3 H9.out
  go_wp2_with fail
  go_region_held3 (fun v => v.cell? ⟨w32.heap.size, 0, none⟩ = some (.int .i64 n0) ∧ v.cell? ⟨w32.heap.size, 1, none⟩ = some (.int .i64 t0) ∧ v.cell? ⟨w32.heap.size, 2, none⟩ = some (.slice a28 z0.length c29) ∧ v.cell? ⟨w.heap.size, 0, none⟩ = some (.int .i64 n0) ∧ v.cell? ⟨w.heap.size, 1, none⟩ = some (.int .i64 t0) ∧ v.cell? ⟨w.heap.size, 2, none⟩ = some (.slice a0 z0.length cap0))
    (go_keep)
    (first
      | (go_at_call 19
         refine (toTalk_any n0 t0 a0 z0 cap0 _ (Cells.drew (rz0.below B39)) (by omega)).mono ?_
         rintro e w46 ⟨a48, c49, rfl, o50, b510⟩
         have b51 : Below w38.heap.size w38 w46 := (Below.refl _ w38).drew.trans b510
         have cc40A := Keeps.of_below b51 _ _ _ cc40
         have cc41A := Keeps.of_below b51 _ _ _ cc41
         have cc42A := Keeps.of_below b51 _ _ _ cc42
         have cc43A := Keeps.of_below b51 _ _ _ cc43
         have cc44A := Keeps.of_below b51 _ _ _ cc44
         have cc45A := Keeps.of_below b51 _ _ _ cc45
         skip)
      | (go_at_call 20
         refine (eqTalk_any n0 t0 n0 t0 a28 a48 z0 z0 c29 c49 _ (own_cells (own_below o30 b51)) (own_cells o50) (by omega) (by omega)).mono ?_
         rintro e w47 ⟨rfl, b52⟩
         have cc40B := Keeps.of_below b52 _ _ _ cc40A
         have cc41B := Keeps.of_below b52 _ _ _ cc41A
         have cc42B := Keeps.of_below b52 _ _ _ cc42A
         have cc43B := Keeps.of_below b52 _ _ _ cc43A
         have cc44B := Keeps.of_below b52 _ _ _ cc44A
         have cc45B := Keeps.of_below b52 _ _ _ cc45A
         skip))
  have b53 := below_join b51 b52
  clear cc40 cc40A cc40B cc41 cc41A cc41B cc42 cc42A cc42B cc43 cc43A cc43B cc44 cc44A cc44B cc45 cc45A cc45B o50
  have zw47 := b53.size
  have B54 := B39.trans (b53.mono B39.size)
  clear B39
  replace o30 := own_below o30 b53
  replace H9 := Lib.hid ((b53.block _ (Array.getElem?_eq_some_iff.1 H9.out).1).trans H9.out)
  replace H35 := Lib.hid ((b53.block _ (Array.getElem?_eq_some_iff.1 H35.out).1).trans H35.out)
  clear b51 b52 b510
  go_wp2
  go_ret
  exact ⟨rfl, B54⟩

set_option linter.unusedVariables false in
set_option maxRecDepth 100000 in
theorem FnExactTalkValid_lifted (os : Os) (started : os.Started) (H : Type) (enc : TypeId × Value → H) :
    ReturnsInHanded {} Try.checked os 4 .any (Rows.fnExactTalkValidSpec.pre6 enc Try.prog Try.f4 Rows.fnExactTalkValidRow.domain false) (Rows.fnExactTalkValidSpec.post enc Try.prog Try.f4 false true false false) := by
  refine returnsInHanded_of_change (C := Try.checked) own_knob started (by kernel_rfl) Try.func4
    (ChangeSpec.witness6 (enc := enc) (C := Try.checked) false ⟨#[], #[.agg #[.int .i64 0, .int .i64 0, .slice none 0 0]], []⟩ 8 (by kernel_rfl) (by kernel_rfl) (by kernel_rfl) (by kernel_rfl)) ?_
  intro W base args ds gs before hval0 hW hcnd _
  have hval : ∀ (j : Nat) t v, Try.f4.params[j]? = some t → args[j]? = some v → Value.okWide Try.prog W .any base t v := hval0
  have hW' := hW
  obtain ⟨p, q, hA0, hV, rfl, hfz, hnd⟩ := hW
  have hA : DataW.TrodAll enc Try.prog W 0 (fun _ => true) true Try.f4.params.toList args.toList ds p := hA0
  rw [Try.params4] at hA hval
  obtain ⟨v0, vs0, d0, ds0, p0, q0, hargs, rfl, rfl, h0, r0⟩ := trodAll_cons hA
  obtain ⟨rfl, rfl, rfl⟩ := trodAll_nil r0
  obtain rfl : args = #[v0] := by cases args; simp_all
  obtain ⟨rfl, rfl⟩ := trodVars_none hV
  have k0 := h0
  have lt0 : ∀ x ∈ p0, x.block < W.heap.size := by obtain ⟨m, hm⟩ := k0; exact DataW.trod_lt m _ _ _ hm
  obtain ⟨n0, t0, a0, cap0, z0, rfl, lc0, lm0, rz0⟩ := rd_talk (hval 0 29 v0 rfl rfl) h0
  clear hA0 hval0
  refine (FnExactTalkValid_walk n0 t0 a0 z0 cap0 W rz0 lc0 lm0).mono fun e W' ⟨he, bel⟩ => ?_
  subst he
  exact ⟨_, rfl, _, _, _, [], _, [], hW', trodAll_mk1 (shut_bool Try.underlying4 _), (trodAll_cons_mk (Below.trod laid_out (by kernel_rfl) (of_decide_eq_true (by kernel_rfl)) k0 bel lt0) trodAll_mk0), rfl, bel.frame _, fun h => by cases h⟩

theorem FnExactTalkValid_holds : Rows.FnExactTalkValidSaid :=
  OpenClaim.holds_of_wide 4 Try.f4 rfl rfl rfl rfl rfl rfl rfl ⟨rfl, rfl, rfl, rfl, rfl⟩ rfl rfl rfl rfl rfl (by kernel_rfl) Try.func4 (by kernel_rfl)
    (of_decide_eq_true (by kernel_rfl)) (by unfold Func.isWrapper; first | (rw [if_pos (by decide +kernel)]; kernel_rfl) | (rw [if_neg (by decide +kernel)]; exact ⟨rfl, rfl⟩))
    (fun os started H enc _ => FnExactTalkValid_lifted os started H enc)
end Go.Proofs.Ytjamcfnclnpdkaa
