/- FnTalkPart: for every code, a sender that waits has a packet. No condition. -/
import Derived.Test.YtjamcfnclnpdkaaTalkDraw3
import Derived.Test.YtjamcfnclnpdkaaSaidB
namespace Go.Proofs.Ytjamcfnclnpdkaa
open Go.ChangeShapes Go.WideShapes Go.ChangeAt Go.RowKit

set_option maxHeartbeats 4000000 in
set_option maxRecDepth 100000 in
theorem FnTalkPart_walk (a0 : Option Addr) (z0 : List Int) (cap0 : Nat) (w : World) (rz0 : Bytes w a0 z0) (lc0 : z0.length ≤ cap0) (_lm0 : cap0 ≤ maxLen) :
    Calls Try.prog 3 #[.slice a0 z0.length cap0] w fun e w' => e = .returned (.bool true) ∧ Below w.heap.size w w' := by
  unfold maxLen at _lm0
  by_cases hn0 : (z0.length : Int) ≤ 1048576
  case neg =>
    have hn0' : (1048576 : Int) < (z0.length : Int) := by omega
    go_enter Try.func3, Try.ntmps3
    go_wp2
    go_ret
    exact ⟨rfl, Below.refl _ _⟩
  go_enter Try.func3, Try.ntmps3
  have B1 : Below w.heap.size w w := Below.refl _ _
  go_wp2_with fail
  refine (drawTalkValid_any a0 z0 cap0 w rz0 lc0 (by omega)).mono ?_
  rintro e w2 ⟨n, t, a, xs, c, rfl, lx, ix, b3⟩
  have zw2 := b3.size
  have B4 := B1.trans (b3.mono B1.size)
  clear B1
  cases hv : talkB n t xs
  · go_wp2_with fail
    refine name_calls fun W5 hW5 => ?_
    have zW5 : W5.heap.size = w2.heap.size + 1 := by rw [hW5]; simp
    have H60 := (heap_new_at w2 (.cells #[.int .i64 n, .int .i64 t, .slice a xs.length c] 25 (0, 0)) (w2.heap.size) (by simp))
    rw [← hW5] at H60
    have H6 := Lib.hid H60
    clear H60
    have B7 := (below_alloc3 B4 (.cells #[.int .i64 n, .int .i64 t, .slice a xs.length c] 25 (0, 0)))
    rw [← hW5] at B7
    clear B4
    replace ix := (Ints.keep ix (Keeps.alloc _ (.cells #[.int .i64 n, .int .i64 t, .slice a xs.length c] 25 (0, 0))))
    rw [← hW5] at ix
    clear hW5
    refine (implTalkValid_any n t a xs c W5 ix (by omega)).mono ?_
    rintro e w8 ⟨rfl, b9⟩
    have zw8 := b9.size
    have B10 := B7.trans (b9.mono B7.size)
    clear B7
    replace H6 := Lib.hid ((b9.block _ (Array.getElem?_eq_some_iff.1 H6.out).1).trans H6.out)
    replace ix := Ints.below ix b9
    obtain ⟨cc11, cc12, cc13⟩ := cells3 H6.out
    have ll14 := (Array.getElem?_eq_some_iff.1 H6.out).1
    go_wp2_with fail
    clear cc11 cc12 cc13 ll14
    refine (specTalkValid_any n t a xs c w8 ix (by omega)).mono ?_
    rintro e w15 ⟨rfl, b16⟩
    have zw15 := b16.size
    have B17 := B10.trans (b16.mono B10.size)
    clear B10
    replace H6 := Lib.hid ((b16.block _ (Array.getElem?_eq_some_iff.1 H6.out).1).trans H6.out)
    replace ix := Ints.below ix b16
    go_wp2
    go_ret
    exact ⟨rfl, B17⟩
  · have e6 : talkB n 6 xs = false := talkB_no_tries (by omega)
    have e2 : talkB 2 t xs = false := talkB_no_turn rfl
    go_wp2_with fail
    refine name_calls fun W18 hW18 => ?_
    have zW18 : W18.heap.size = w2.heap.size + 1 := by rw [hW18]; simp
    have H190 := (heap_new_at w2 (.cells #[.int .i64 n, .int .i64 t, .slice a xs.length c] 25 (0, 0)) (w2.heap.size) (by simp))
    rw [← hW18] at H190
    have H19 := Lib.hid H190
    clear H190
    have B20 := (below_alloc3 B4 (.cells #[.int .i64 n, .int .i64 t, .slice a xs.length c] 25 (0, 0)))
    rw [← hW18] at B20
    clear B4
    replace ix := (Ints.keep ix (Keeps.alloc _ (.cells #[.int .i64 n, .int .i64 t, .slice a xs.length c] 25 (0, 0))))
    rw [← hW18] at ix
    clear hW18
    refine (implTalkValid_any n t a xs c W18 ix (by omega)).mono ?_
    rintro e w21 ⟨rfl, b22⟩
    have zw21 := b22.size
    have B23 := B20.trans (b22.mono B20.size)
    clear B20
    replace H19 := Lib.hid ((b22.block _ (Array.getElem?_eq_some_iff.1 H19.out).1).trans H19.out)
    replace ix := Ints.below ix b22
    obtain ⟨cc24, cc25, cc26⟩ := cells3 H19.out
    have ll27 := (Array.getElem?_eq_some_iff.1 H19.out).1
    go_wp2_with fail
    clear cc24 cc25 cc26 ll27
    refine (specTalkValid_any n t a xs c w21 ix (by omega)).mono ?_
    rintro e w28 ⟨rfl, b29⟩
    have zw28 := b29.size
    have B30 := B23.trans (b29.mono B23.size)
    clear B23
    replace H19 := Lib.hid ((b29.block _ (Array.getElem?_eq_some_iff.1 H19.out).1).trans H19.out)
    replace ix := Ints.below ix b29
    obtain ⟨cc31, cc32, cc33⟩ := cells3 H19.out
    have ll34 := (Array.getElem?_eq_some_iff.1 H19.out).1
    go_wp2_with fail
    clear cc31 cc32 cc33 ll34
    refine name_calls fun W35 hW35 => ?_
    have zW35 : W35.heap.size = w28.heap.size + 2 := by rw [hW35]; simp
    have H360 := (box_alloc (heap_new_at w28 (.cells #[.int .i64 n, .int .i64 6, .slice a xs.length c] 25 (0, 0)) (w28.heap.size) (by simp)) (.cells #[.int .i64 2, .int .i64 t, .slice a xs.length c] 25 (0, 0)))
    rw [← hW35] at H360
    have H36 := Lib.hid H360
    clear H360
    have H370 := (heap_new_at (w28.alloc (.cells #[.int .i64 n, .int .i64 6, .slice a xs.length c] 25 (0, 0))) (.cells #[.int .i64 2, .int .i64 t, .slice a xs.length c] 25 (0, 0)) (w28.heap.size + 1) (by simp))
    rw [← hW35] at H370
    have H37 := Lib.hid H370
    clear H370
    have B38 := (below_alloc3 (below_alloc3 B30 (.cells #[.int .i64 n, .int .i64 6, .slice a xs.length c] 25 (0, 0))) (.cells #[.int .i64 2, .int .i64 t, .slice a xs.length c] 25 (0, 0)))
    rw [← hW35] at B38
    clear B30
    have H190 := (box_alloc (box_alloc H19.out (.cells #[.int .i64 n, .int .i64 6, .slice a xs.length c] 25 (0, 0))) (.cells #[.int .i64 2, .int .i64 t, .slice a xs.length c] 25 (0, 0)))
    rw [← hW35] at H190
    clear H19
    have H19 := Lib.hid H190
    clear H190
    replace ix := (Ints.keep (Ints.keep ix (Keeps.alloc _ (.cells #[.int .i64 n, .int .i64 6, .slice a xs.length c] 25 (0, 0)))) (Keeps.alloc _ (.cells #[.int .i64 2, .int .i64 t, .slice a xs.length c] 25 (0, 0))))
    rw [← hW35] at ix
    clear hW35
    refine (implTalkValid_any n 6 a xs c W35 ix (by omega)).mono ?_
    rintro e w39 ⟨rfl, b40⟩
    have zw39 := b40.size
    have B41 := B38.trans (b40.mono B38.size)
    clear B38
    replace H19 := Lib.hid ((b40.block _ (Array.getElem?_eq_some_iff.1 H19.out).1).trans H19.out)
    replace H36 := Lib.hid ((b40.block _ (Array.getElem?_eq_some_iff.1 H36.out).1).trans H36.out)
    replace H37 := Lib.hid ((b40.block _ (Array.getElem?_eq_some_iff.1 H37.out).1).trans H37.out)
    replace ix := Ints.below ix b40
    obtain ⟨cc42, cc43, cc44⟩ := cells3 H37.out
    have ll45 := (Array.getElem?_eq_some_iff.1 H37.out).1
    go_wp2_with fail
    clear cc42 cc43 cc44 ll45
    refine (implTalkValid_any 2 t a xs c w39 ix (by omega)).mono ?_
    rintro e w46 ⟨rfl, b47⟩
    have zw46 := b47.size
    have B48 := B41.trans (b47.mono B41.size)
    clear B41
    replace H19 := Lib.hid ((b47.block _ (Array.getElem?_eq_some_iff.1 H19.out).1).trans H19.out)
    replace H36 := Lib.hid ((b47.block _ (Array.getElem?_eq_some_iff.1 H36.out).1).trans H36.out)
    replace H37 := Lib.hid ((b47.block _ (Array.getElem?_eq_some_iff.1 H37.out).1).trans H37.out)
    replace ix := Ints.below ix b47
    go_wp2
    go_ret
    exact ⟨rfl, B48⟩

set_option linter.unusedVariables false in
set_option maxRecDepth 100000 in
theorem FnTalkPart_lifted (os : Os) (started : os.Started) (H : Type) (enc : TypeId × Value → H) :
    ReturnsInHanded {} Try.checked os 3 .any (Rows.fnTalkPartSpec.pre6 enc Try.prog Try.f3 Rows.fnTalkPartRow.domain false) (Rows.fnTalkPartSpec.post enc Try.prog Try.f3 false true false false) := by
  refine returnsInHanded_of_change (C := Try.checked) own_knob started (by kernel_rfl) Try.func3
    (ChangeSpec.witness6 (enc := enc) (C := Try.checked) false ⟨#[], #[.slice none 0 0], []⟩ 8 (by kernel_rfl) (by kernel_rfl) (by kernel_rfl) (by kernel_rfl)) ?_
  intro W base args ds gs before hval0 hW hcnd _
  have hval : ∀ (j : Nat) t v, Try.f3.params[j]? = some t → args[j]? = some v → Value.okWide Try.prog W .any base t v := hval0
  have hW' := hW
  obtain ⟨p, q, hA0, hV, rfl, hfz, hnd⟩ := hW
  have hA : DataW.TrodAll enc Try.prog W 0 (fun _ => true) true Try.f3.params.toList args.toList ds p := hA0
  rw [Try.params3] at hA hval
  obtain ⟨v0, vs0, d0, ds0, p0, q0, hargs, rfl, rfl, h0, r0⟩ := trodAll_cons hA
  obtain ⟨rfl, rfl, rfl⟩ := trodAll_nil r0
  obtain rfl : args = #[v0] := by cases args; simp_all
  obtain ⟨rfl, rfl⟩ := trodVars_none hV
  have k0 := h0
  have lt0 : ∀ x ∈ p0, x.block < W.heap.size := by obtain ⟨m, hm⟩ := k0; exact DataW.trod_lt m _ _ _ hm
  obtain ⟨a0, len0, cap0, rfl⟩ := okWide_slice Try.underlying22 (hval 0 22 v0 rfl rfl)
  obtain ⟨z0, rfl, lc0, lm0, rz0⟩ : ∃ z : List Int, len0 = z.length ∧ z.length ≤ cap0 ∧ cap0 ≤ maxLen ∧ Bytes W a0 z := by
    obtain ⟨fuel, hf⟩ := h0
    obtain ⟨ao, cap, z, e, h1, h2, h3⟩ := rd_bytes hf
    simp [Value.cells] at e
    obtain ⟨rfl, rfl, rfl⟩ := e
    exact ⟨z, rfl, h1, h2, h3⟩
  have lb0 : z0.length ≤ cap0 := lc0
  clear hA0 hval0
  refine (FnTalkPart_walk a0 z0 cap0 W rz0 lc0 lm0).mono fun e W' ⟨he, bel⟩ => ?_
  subst he
  exact ⟨_, rfl, _, _, _, [], _, [], hW', trodAll_mk1 (shut_bool Try.underlying4 _), (trodAll_cons_mk (Below.trod laid_out (by kernel_rfl) (of_decide_eq_true (by kernel_rfl)) k0 bel lt0) trodAll_mk0), rfl, bel.frame _, fun h => by cases h⟩

theorem FnTalkPart_holds : Rows.FnTalkPartSaid :=
  OpenClaim.holds_of_wide 3 Try.f3 rfl rfl rfl rfl rfl rfl rfl ⟨rfl, rfl, rfl, rfl, rfl⟩ rfl rfl rfl rfl rfl (by kernel_rfl) Try.func3 (by kernel_rfl)
    (of_decide_eq_true (by kernel_rfl)) (by unfold Func.isWrapper; first | (rw [if_pos (by decide +kernel)]; kernel_rfl) | (rw [if_neg (by decide +kernel)]; exact ⟨rfl, rfl⟩))
    (fun os started H enc _ => FnTalkPart_lifted os started H enc)
end Go.Proofs.Ytjamcfnclnpdkaa
