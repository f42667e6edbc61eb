/- FnWaitsPut: A further byte needs its ticks. No conditions beyond the statement's own. -/
import Derived.Test.YtfjdmdjoebjciaaSendWaits
namespace Go.Proofs.Ytfjdmdjoebjciaa
open Go.ChangeShapes Go.WideShapes Go.ChangeAt Go.RowKit

set_option maxHeartbeats 4000000 in
set_option maxRecDepth 100000 in
theorem FnWaitsPut_walk (a0 : Option Addr) (z0 : List Int) (cap0 : Nat) (w : World) (rz0 : Bytes w a0 z0) (lc0 : z0.length ≤ cap0) (_lm0 : cap0 ≤ maxLen) :
    Calls Try.prog 10 #[.slice a0 z0.length cap0] w fun e w' => e = .returned (.bool true) ∧ Below w.heap.size w w' := by
  unfold maxLen at _lm0
  by_cases hn0 : (z0.length : Int) ≤ 1048576
  case neg =>
    have hn0' : (1048576 : Int) < (z0.length : Int) := by omega
    go_enter Try.func10, Try.ntmps10
    go_wp2
    go_ret
    exact ⟨rfl, Below.refl _ _⟩
  go_enter Try.func10, Try.ntmps10
  have B1 : Below w.heap.size w w := Below.refl _ _
  go_wp2_with fail
  refine (drawSendWaits_any a0 z0 cap0 w rz0 lc0 (by omega)).mono ?_
  rintro e w2 ⟨r, a, xs, c, hh, l, rfl, lx, r0, r1, h0, h1, l0, l1, ox, b3⟩
  have zw2 := b3.size
  have B4 := B1.trans (b3.mono B1.size)
  clear B1
  have ix : Ints w2 a xs := own_cells ox
  clear ox
  have HI := Lib.hid (fun v h => implSendWaits_any r a xs c hh l v h (by omega))
  have HJ := Lib.hid (fun v h => specSendWaits_any r a xs c hh l v h (by omega))
  cases hv : sendVB r xs hh l
  · have hW : waitsN r xs hh l = -1 := by simp [waitsN, hv]
    rw [hW] at HI HJ
    clear hW
    go_wp2_with fail
    refine name_calls fun W5 hW5 => ?_
    have zW5 : W5.heap.size = w2.heap.size + 1 := by rw [hW5]; simp
    have H60 := (heap_new_at w2 (.cells #[.int .i64 r, .slice a xs.length c, .int .i64 hh, .int .i64 l] 47 (0, 0)) (w2.heap.size) (by simp))
    rw [← hW5] at H60
    have H6 := Lib.hid H60
    clear H60
    have B7 := (below_alloc3 B4 (.cells #[.int .i64 r, .slice a xs.length c, .int .i64 hh, .int .i64 l] 47 (0, 0)))
    rw [← hW5] at B7
    clear B4
    replace ix := (Ints.keep ix (Keeps.alloc _ (.cells #[.int .i64 r, .slice a xs.length c, .int .i64 hh, .int .i64 l] 47 (0, 0))))
    rw [← hW5] at ix
    clear hW5
    refine (HI.out W5 ix).mono ?_
    rintro e w8 ⟨rfl, b9⟩
    have zw8 := b9.size
    have B10 := B7.trans (b9.mono B7.size)
    clear B7
    replace H6 := Lib.hid ((b9.block _ (Array.getElem?_eq_some_iff.1 H6.out).1).trans H6.out)
    replace ix := Ints.below ix b9
    obtain ⟨cc11, cc12, cc13, cc14⟩ := cells4 H6.out
    have ll15 := (Array.getElem?_eq_some_iff.1 H6.out).1
    go_wp2_with fail
    clear cc11 cc12 cc13 cc14 ll15
    refine (HJ.out w8 ix).mono ?_
    rintro e w16 ⟨rfl, b17⟩
    have zw16 := b17.size
    have B18 := B10.trans (b17.mono B10.size)
    clear B10
    replace H6 := Lib.hid ((b17.block _ (Array.getElem?_eq_some_iff.1 H6.out).1).trans H6.out)
    replace ix := Ints.below ix b17
    go_wp2
    go_ret
    exact ⟨rfl, B18⟩
  · have hn := waits_nonneg hv
    have hn0 := hn.1
    have hn1 := hn.2
    have hmore := fun h2 => waits_more (x := 5) hv rfl h2
    have HM := Lib.hid hmore
    obtain ⟨Nw, hNw⟩ : ∃ Nw, Nw = waitsN r xs hh l := ⟨_, rfl⟩
    rw [← hNw] at HI HJ HM hn0 hn1
    clear hNw hmore hn
    have HP := Lib.hid (fun v h => implSendPut_any r a xs c hh l 5 v h (by omega))
    go_wp2_with fail
    refine name_calls fun W19 hW19 => ?_
    have zW19 : W19.heap.size = w2.heap.size + 1 := by rw [hW19]; simp
    have H200 := (heap_new_at w2 (.cells #[.int .i64 r, .slice a xs.length c, .int .i64 hh, .int .i64 l] 47 (0, 0)) (w2.heap.size) (by simp))
    rw [← hW19] at H200
    have H20 := Lib.hid H200
    clear H200
    have B21 := (below_alloc3 B4 (.cells #[.int .i64 r, .slice a xs.length c, .int .i64 hh, .int .i64 l] 47 (0, 0)))
    rw [← hW19] at B21
    clear B4
    replace ix := (Ints.keep ix (Keeps.alloc _ (.cells #[.int .i64 r, .slice a xs.length c, .int .i64 hh, .int .i64 l] 47 (0, 0))))
    rw [← hW19] at ix
    clear hW19
    refine (HI.out W19 ix).mono ?_
    rintro e w22 ⟨rfl, b23⟩
    have zw22 := b23.size
    have B24 := B21.trans (b23.mono B21.size)
    clear B21
    replace H20 := Lib.hid ((b23.block _ (Array.getElem?_eq_some_iff.1 H20.out).1).trans H20.out)
    replace ix := Ints.below ix b23
    obtain ⟨cc25, cc26, cc27, cc28⟩ := cells4 H20.out
    have ll29 := (Array.getElem?_eq_some_iff.1 H20.out).1
    go_wp2_with fail
    clear cc25 cc26 cc27 cc28 ll29
    refine (HJ.out w22 ix).mono ?_
    rintro e w30 ⟨rfl, b31⟩
    have zw30 := b31.size
    have B32 := B24.trans (b31.mono B24.size)
    clear B24
    replace H20 := Lib.hid ((b31.block _ (Array.getElem?_eq_some_iff.1 H20.out).1).trans H20.out)
    replace ix := Ints.below ix b31
    cases hB : sputB r hh l xs 5
    · have hl : (xs.length : Int) = r := by
        have hf := (sendVB_facts hv).1
        have hfa := fifoB_facts hf
        have h5 : byteB 5 = true := rfl
        simp only [sputB, putB, hv, hf, h5, Bool.true_and, decide_eq_false_iff_not] at hB
        omega
      have hlb : ((xs.length : Int) == r) = true := by simpa using hl
      rw [sputR_no hB] at HP
      clear hl
      obtain ⟨cc33, cc34, cc35, cc36⟩ := cells4 H20.out
      have ll37 := (Array.getElem?_eq_some_iff.1 H20.out).1
      go_wp2_with fail
      clear cc33 cc34 cc35 cc36 ll37
      refine (HP.out w30 ix).mono ?_
      rintro e w38 ⟨a1, c1, rfl, o1, b39⟩
      have zw38 := b39.size
      have B40 := B32.trans (b39.mono B32.size)
      clear B32
      replace H20 := Lib.hid ((b39.block _ (Array.getElem?_eq_some_iff.1 H20.out).1).trans H20.out)
      replace ix := Ints.below ix b39
      clear o1
      obtain ⟨cc41, cc42, cc43, cc44⟩ := cells4 H20.out
      have ll45 := (Array.getElem?_eq_some_iff.1 H20.out).1
      go_wp2
      go_ret
      refine ⟨rfl, ?_⟩
      repeat' (first | exact Below.refl _ _ | exact Nat.le_refl _ | assumption | refine Below.drew ?_ | refine below_drewN ?_ _ | (refine Below.alloc ?_ (by first | exact Nat.le_refl _ | omega | (simp; done) | (simp; omega)) _) | (refine Below.setCell ?_ (by first | exact Nat.le_refl _ | omega | (simp; done) | (simp; omega)) _))
    · have hff := hB
      simp only [sputB, putB, Bool.and_eq_true, decide_eq_true_eq] at hff
      obtain ⟨_, hf, hb, hl⟩ := hff
      have hfa := fifoB_facts hf
      have hM := HM.out hl
      have hR := sputR_yes hB
      obtain ⟨L, hL⟩ : ∃ L, L = xs ++ [5] := ⟨_, rfl⟩
      rw [← hL] at hR hM
      rw [hR] at HP
      have hL17 : L.length ≤ 17 := by rw [hL]; simp; omega
      clear hL hR hfa hf hb
      have HX := Lib.hid (fun v a1 c1 h => implSendWaits_any r a1 L c1 hh l v h (by omega))
      rw [hM] at HX
      clear hM
      obtain ⟨cc46, cc47, cc48, cc49⟩ := cells4 H20.out
      have ll50 := (Array.getElem?_eq_some_iff.1 H20.out).1
      go_wp2_with fail
      clear cc46 cc47 cc48 cc49 ll50
      refine (HP.out w30 ix).mono ?_
      rintro e w51 ⟨a1, c1, rfl, o1, b52⟩
      have zw51 := b52.size
      have B53 := B32.trans (b52.mono B32.size)
      clear B32
      replace H20 := Lib.hid ((b52.block _ (Array.getElem?_eq_some_iff.1 H20.out).1).trans H20.out)
      replace ix := Ints.below ix b52
      have i1 : Ints w51 a1 L := own_cells o1
      clear o1
      by_cases hz : Nw = 0
      · subst hz
        go_wp2_with fail
        refine name_calls fun W54 hW54 => ?_
        have zW54 : W54.heap.size = w51.heap.size + 1 := by rw [hW54]; simp
        have H550 := (heap_new_at w51 (.cells #[.int .i64 r, .slice a1 L.length c1, .int .i64 hh, .int .i64 l] 47 (0, 0)) (w51.heap.size) (by simp))
        rw [← hW54] at H550
        have H55 := Lib.hid H550
        clear H550
        have B56 := (below_alloc3 B53 (.cells #[.int .i64 r, .slice a1 L.length c1, .int .i64 hh, .int .i64 l] 47 (0, 0)))
        rw [← hW54] at B56
        clear B53
        have H200 := (box_alloc H20.out (.cells #[.int .i64 r, .slice a1 L.length c1, .int .i64 hh, .int .i64 l] 47 (0, 0)))
        rw [← hW54] at H200
        clear H20
        have H20 := Lib.hid H200
        clear H200
        replace ix := (Ints.keep ix (Keeps.alloc _ (.cells #[.int .i64 r, .slice a1 L.length c1, .int .i64 hh, .int .i64 l] 47 (0, 0))))
        rw [← hW54] at ix
        replace i1 := (Ints.keep i1 (Keeps.alloc _ (.cells #[.int .i64 r, .slice a1 L.length c1, .int .i64 hh, .int .i64 l] 47 (0, 0))))
        rw [← hW54] at i1
        clear hW54
        refine (HX.out W54 a1 c1 i1).mono ?_
        rintro e w57 ⟨rfl, b58⟩
        have zw57 := b58.size
        have B59 := B56.trans (b58.mono B56.size)
        clear B56
        replace H20 := Lib.hid ((b58.block _ (Array.getElem?_eq_some_iff.1 H20.out).1).trans H20.out)
        replace H55 := Lib.hid ((b58.block _ (Array.getElem?_eq_some_iff.1 H55.out).1).trans H55.out)
        replace ix := Ints.below ix b58
        replace i1 := Ints.below i1 b58
        go_wp2
        go_ret
        exact ⟨by simp, B59⟩
      · have hzb : (Nw == 0) = false := by simpa using hz
        rw [if_neg hz] at HX
        clear hz
        go_wp2_with fail
        refine name_calls fun W60 hW60 => ?_
        have zW60 : W60.heap.size = w51.heap.size + 1 := by rw [hW60]; simp
        have H610 := (heap_new_at w51 (.cells #[.int .i64 r, .slice a1 L.length c1, .int .i64 hh, .int .i64 l] 47 (0, 0)) (w51.heap.size) (by simp))
        rw [← hW60] at H610
        have H61 := Lib.hid H610
        clear H610
        have B62 := (below_alloc3 B53 (.cells #[.int .i64 r, .slice a1 L.length c1, .int .i64 hh, .int .i64 l] 47 (0, 0)))
        rw [← hW60] at B62
        clear B53
        have H200 := (box_alloc H20.out (.cells #[.int .i64 r, .slice a1 L.length c1, .int .i64 hh, .int .i64 l] 47 (0, 0)))
        rw [← hW60] at H200
        clear H20
        have H20 := Lib.hid H200
        clear H200
        replace ix := (Ints.keep ix (Keeps.alloc _ (.cells #[.int .i64 r, .slice a1 L.length c1, .int .i64 hh, .int .i64 l] 47 (0, 0))))
        rw [← hW60] at ix
        replace i1 := (Ints.keep i1 (Keeps.alloc _ (.cells #[.int .i64 r, .slice a1 L.length c1, .int .i64 hh, .int .i64 l] 47 (0, 0))))
        rw [← hW60] at i1
        clear hW60
        refine (HX.out W60 a1 c1 i1).mono ?_
        rintro e w63 ⟨rfl, b64⟩
        have zw63 := b64.size
        have B65 := B62.trans (b64.mono B62.size)
        clear B62
        replace H20 := Lib.hid ((b64.block _ (Array.getElem?_eq_some_iff.1 H20.out).1).trans H20.out)
        replace H61 := Lib.hid ((b64.block _ (Array.getElem?_eq_some_iff.1 H61.out).1).trans H61.out)
        replace ix := Ints.below ix b64
        replace i1 := Ints.below i1 b64
        go_wp2
        go_ret
        exact ⟨by simp, B65⟩

set_option linter.unusedVariables false in
set_option maxRecDepth 100000 in
theorem FnWaitsPut_lifted (os : Os) (started : os.Started) (H : Type) (enc : TypeId × Value → H) :
    ReturnsInHanded {} Try.checked os 10 .any (Rows.fnWaitsPutSpec.pre6 enc Try.prog Try.f10 Rows.fnWaitsPutRow.domain false) (Rows.fnWaitsPutSpec.post enc Try.prog Try.f10 false true false false) := by
  refine returnsInHanded_of_change (C := Try.checked) own_knob started (by kernel_rfl) Try.func10
    (ChangeSpec.witness6 (enc := enc) (C := Try.checked) false ⟨#[], #[.slice none 0 0], []⟩ 8 (by kernel_rfl) (by kernel_rfl) (by kernel_rfl) (by kernel_rfl)) ?_
  intro W base args ds gs before hval0 hW hcnd _
  have hval : ∀ (j : Nat) t v, Try.f10.params[j]? = some t → args[j]? = some v → Value.okWide Try.prog W .any base t v := hval0
  have hW' := hW
  obtain ⟨p, q, hA0, hV, rfl, hfz, hnd⟩ := hW
  have hA : DataW.TrodAll enc Try.prog W 0 (fun _ => true) true Try.f10.params.toList args.toList ds p := hA0
  rw [Try.params10] at hA hval
  obtain ⟨v0, vs0, d0, ds0, p0, q0, hargs, rfl, rfl, h0, r0⟩ := trodAll_cons hA
  obtain ⟨rfl, rfl, rfl⟩ := trodAll_nil r0
  obtain rfl : args = #[v0] := by cases args; simp_all
  obtain ⟨rfl, rfl⟩ := trodVars_none hV
  have k0 := h0
  have lt0 : ∀ x ∈ p0, x.block < W.heap.size := by obtain ⟨m, hm⟩ := k0; exact DataW.trod_lt m _ _ _ hm
  obtain ⟨a0, len0, cap0, rfl⟩ := okWide_slice Try.underlying22 (hval 0 22 v0 rfl rfl)
  obtain ⟨z0, rfl, lc0, lm0, rz0⟩ : ∃ z : List Int, len0 = z.length ∧ z.length ≤ cap0 ∧ cap0 ≤ maxLen ∧ Bytes W a0 z := by
    obtain ⟨fuel, hf⟩ := h0
    obtain ⟨ao, cap, z, e, h1, h2, h3⟩ := rd_bytes hf
    simp [Value.cells] at e
    obtain ⟨rfl, rfl, rfl⟩ := e
    exact ⟨z, rfl, h1, h2, h3⟩
  have lb0 : z0.length ≤ cap0 := lc0
  clear hA0 hval0
  refine (FnWaitsPut_walk a0 z0 cap0 W rz0 lc0 lm0).mono fun e W' ⟨he, bel⟩ => ?_
  subst he
  exact ⟨_, rfl, _, _, _, [], _, [], hW', trodAll_mk1 (shut_bool Try.underlying4 _), (trodAll_cons_mk (Below.trod laid_out (by kernel_rfl) (of_decide_eq_true (by kernel_rfl)) k0 bel lt0) trodAll_mk0), rfl, bel.frame _, fun h => by cases h⟩

theorem FnWaitsPut_holds : Rows.FnWaitsPutSaid :=
  OpenClaim.holds_of_wide 10 Try.f10 rfl rfl rfl rfl rfl rfl rfl ⟨rfl, rfl, rfl, rfl, rfl⟩ rfl rfl rfl rfl rfl (by kernel_rfl) Try.func10 (by kernel_rfl)
    (of_decide_eq_true (by kernel_rfl)) (by unfold Func.isWrapper; first | (rw [if_pos (by decide +kernel)]; kernel_rfl) | (rw [if_neg (by decide +kernel)]; exact ⟨rfl, rfl⟩))
    (fun os started H enc _ => FnWaitsPut_lifted os started H enc)
end Go.Proofs.Ytfjdmdjoebjciaa
