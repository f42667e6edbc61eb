/- FnFifoPut: The newest byte is the last one. No conditions beyond the statement's own. -/
import Derived.Test.YtfjdmdjoebjciaaFifoLaw
namespace Go.Proofs.Ytfjdmdjoebjciaa
open Go.ChangeShapes Go.WideShapes Go.ChangeAt Go.RowKit

set_option maxHeartbeats 4000000 in
set_option maxRecDepth 100000 in
theorem FnFifoPut_walk (a0 : Option Addr) (z0 : List Int) (cap0 : Nat) (w : World) (rz0 : Bytes w a0 z0) (lc0 : z0.length ≤ cap0) (_lm0 : cap0 ≤ maxLen) :
    Calls Try.prog 3 #[.slice a0 z0.length cap0] w fun e w' => e = .returned (.bool true) ∧ Below w.heap.size w w' := by
  unfold maxLen at _lm0
  by_cases hn0 : (z0.length : Int) ≤ 1048576
  case neg =>
    have hn0' : (1048576 : Int) < (z0.length : Int) := by omega
    go_enter Try.func3, Try.ntmps3
    go_wp2
    go_ret
    exact ⟨rfl, Below.refl _ _⟩
  go_enter Try.func3, Try.ntmps3
  have B1 : Below w.heap.size w w := Below.refl _ _
  go_wp2_with fail
  refine (drawFifoPut_any a0 z0 cap0 w rz0 lc0 (by omega)).mono ?_
  rintro e w2 ⟨r, a, xs, c, x, rfl, lx, r0, r1, x0, x1, ox, b3⟩
  have zw2 := b3.size
  have B4 := B1.trans (b3.mono B1.size)
  clear B1
  have ix : Ints w2 a xs := own_cells ox
  have HC := Lib.hid (own_nilcap ox)
  clear ox
  have HI := Lib.hid (fun v h => implFifoPut_any r a xs c x v h (by omega))
  have HJ := Lib.hid (fun v h => specFifoPut_any r a xs c x v h (by omega) HC.out)
  cases hB : putB r xs x
  · rw [putR_no hB] at HI HJ
    go_wp2_with fail
    refine name_calls fun W5 hW5 => ?_
    have zW5 : W5.heap.size = w2.heap.size + 1 := by rw [hW5]; simp
    have H60 := (heap_new_at w2 (.cells #[.int .i64 r, .slice a xs.length c] 25 (0, 0)) (w2.heap.size) (by simp))
    rw [← hW5] at H60
    have H6 := Lib.hid H60
    clear H60
    have B7 := (below_alloc3 B4 (.cells #[.int .i64 r, .slice a xs.length c] 25 (0, 0)))
    rw [← hW5] at B7
    clear B4
    replace ix := (Ints.keep ix (Keeps.alloc _ (.cells #[.int .i64 r, .slice a xs.length c] 25 (0, 0))))
    rw [← hW5] at ix
    clear hW5
    refine (HI.out W5 ix).mono ?_
    rintro e w8 ⟨a1, c1, rfl, o1, b9⟩
    have zw8 := b9.size
    have B10 := B7.trans (b9.mono B7.size)
    clear B7
    replace H6 := Lib.hid ((b9.block _ (Array.getElem?_eq_some_iff.1 H6.out).1).trans H6.out)
    replace ix := Ints.below ix b9
    have i1 : Ints w8 a1 [] := own_cells o1
    have hcap1 := own_cap o1
    clear o1
    obtain ⟨cc11, cc12⟩ := cells2 H6.out
    have ll13 := (Array.getElem?_eq_some_iff.1 H6.out).1
    go_wp2_with fail
    clear cc11 cc12 ll13
    refine name_calls fun W14 hW14 => ?_
    have zW14 : W14.heap.size = w8.heap.size + 1 := by rw [hW14]; simp
    have H150 := (heap_new_at w8 (.cells #[.int .i64 0, .slice a1 0 c1] 25 (0, 0)) (w8.heap.size) (by simp))
    rw [← hW14] at H150
    have H15 := Lib.hid H150
    clear H150
    have B16 := (below_alloc3 B10 (.cells #[.int .i64 0, .slice a1 0 c1] 25 (0, 0)))
    rw [← hW14] at B16
    clear B10
    have H60 := (box_alloc H6.out (.cells #[.int .i64 0, .slice a1 0 c1] 25 (0, 0)))
    rw [← hW14] at H60
    clear H6
    have H6 := Lib.hid H60
    clear H60
    replace ix := (Ints.keep ix (Keeps.alloc _ (.cells #[.int .i64 0, .slice a1 0 c1] 25 (0, 0))))
    rw [← hW14] at ix
    replace i1 := (Ints.keep i1 (Keeps.alloc _ (.cells #[.int .i64 0, .slice a1 0 c1] 25 (0, 0))))
    rw [← hW14] at i1
    clear hW14
    refine (HJ.out W14 ix).mono ?_
    rintro e w17 ⟨a3, c3, rfl, o3, b18⟩
    have zw17 := b18.size
    have B19 := B16.trans (b18.mono B16.size)
    clear B16
    replace H6 := Lib.hid ((b18.block _ (Array.getElem?_eq_some_iff.1 H6.out).1).trans H6.out)
    replace H15 := Lib.hid ((b18.block _ (Array.getElem?_eq_some_iff.1 H15.out).1).trans H15.out)
    replace ix := Ints.below ix b18
    replace i1 := Ints.below i1 b18
    have i3 : Ints w17 a3 [] := own_cells o3
    clear o3
    obtain ⟨cc20, cc21⟩ := cells2 H15.out
    have ll22 := (Array.getElem?_eq_some_iff.1 H15.out).1
    obtain ⟨cc23, cc24⟩ := cells2 H6.out
    have ll25 := (Array.getElem?_eq_some_iff.1 H6.out).1
    go_wp2_with fail
    clear cc20 cc21 ll22 cc23 cc24 ll25
    refine name_calls fun W26 hW26 => ?_
    have zW26 : W26.heap.size = w17.heap.size + 1 := by rw [hW26]; simp
    have H270 := (heap_new_at w17 (.cells #[.int .i64 0, .slice a3 0 c3] 25 (0, 0)) (w17.heap.size) (by simp))
    rw [← hW26] at H270
    have H27 := Lib.hid H270
    clear H270
    have B28 := (below_alloc3 B19 (.cells #[.int .i64 0, .slice a3 0 c3] 25 (0, 0)))
    rw [← hW26] at B28
    clear B19
    have H60 := (box_alloc H6.out (.cells #[.int .i64 0, .slice a3 0 c3] 25 (0, 0)))
    rw [← hW26] at H60
    clear H6
    have H6 := Lib.hid H60
    clear H60
    have H150 := (box_alloc H15.out (.cells #[.int .i64 0, .slice a3 0 c3] 25 (0, 0)))
    rw [← hW26] at H150
    clear H15
    have H15 := Lib.hid H150
    clear H150
    replace ix := (Ints.keep ix (Keeps.alloc _ (.cells #[.int .i64 0, .slice a3 0 c3] 25 (0, 0))))
    rw [← hW26] at ix
    replace i1 := (Ints.keep i1 (Keeps.alloc _ (.cells #[.int .i64 0, .slice a3 0 c3] 25 (0, 0))))
    rw [← hW26] at i1
    replace i3 := (Ints.keep i3 (Keeps.alloc _ (.cells #[.int .i64 0, .slice a3 0 c3] 25 (0, 0))))
    rw [← hW26] at i3
    clear hW26
    refine (sameFifo_any 0 0 a1 a3 [] [] c1 c3 W26 i1 i3 (by simp) (by simp)).mono ?_
    rintro e w29 ⟨rfl, b30⟩
    have zw29 := b30.size
    have B31 := B28.trans (b30.mono B28.size)
    clear B28
    replace H6 := Lib.hid ((b30.block _ (Array.getElem?_eq_some_iff.1 H6.out).1).trans H6.out)
    replace H15 := Lib.hid ((b30.block _ (Array.getElem?_eq_some_iff.1 H15.out).1).trans H15.out)
    replace H27 := Lib.hid ((b30.block _ (Array.getElem?_eq_some_iff.1 H27.out).1).trans H27.out)
    replace ix := Ints.below ix b30
    replace i1 := Ints.below i1 b30
    replace i3 := Ints.below i3 b30
    obtain ⟨cc32, cc33⟩ := cells2 H15.out
    have ll34 := (Array.getElem?_eq_some_iff.1 H15.out).1
    obtain ⟨cc35, cc36⟩ := cells2 H27.out
    have ll37 := (Array.getElem?_eq_some_iff.1 H27.out).1
    obtain ⟨cc38, cc39⟩ := cells2 H6.out
    have ll40 := (Array.getElem?_eq_some_iff.1 H6.out).1
    go_wp2_with fail
    clear cc32 cc33 ll34 cc35 cc36 ll37 cc38 cc39 ll40
    refine (sameFifo_any 0 0 a1 a3 [] [] c1 c3 w29 i1 i3 (by simp) (by simp)).mono ?_
    rintro e w41 ⟨rfl, b42⟩
    have zw41 := b42.size
    have B43 := B31.trans (b42.mono B31.size)
    clear B31
    replace H6 := Lib.hid ((b42.block _ (Array.getElem?_eq_some_iff.1 H6.out).1).trans H6.out)
    replace H15 := Lib.hid ((b42.block _ (Array.getElem?_eq_some_iff.1 H15.out).1).trans H15.out)
    replace H27 := Lib.hid ((b42.block _ (Array.getElem?_eq_some_iff.1 H27.out).1).trans H27.out)
    replace ix := Ints.below ix b42
    replace i1 := Ints.below i1 b42
    replace i3 := Ints.below i3 b42
    go_wp2
    go_ret
    exact ⟨rfl, B43⟩
  · have hff := hB
    simp only [putB, Bool.and_eq_true, decide_eq_true_eq] at hff
    obtain ⟨hf, hb, hl⟩ := hff
    have hfa := fifoB_facts hf
    have HS := Lib.hid (show fifoB r (xs ++ [x]) = true from fifoB_snoc hf hb hl)
    have hR := putR_yes hB
    obtain ⟨L, hL⟩ : ∃ L, L = xs ++ [x] := ⟨_, rfl⟩
    rw [← hL] at hR HS
    rw [hR] at HI HJ
    have hLl : (L.length : Int) - 1 = (xs.length : Int) := by rw [hL]; simp
    have hLn : L.length = xs.length + 1 := by rw [hL]; simp
    have hLx : L[xs.length]? = some x := by rw [hL]; simp
    have hLt : L.take xs.length = xs := by rw [hL]; simp
    have hL17 : L.length ≤ 17 := by omega
    have HLx := Lib.hid hLx
    have HLt := Lib.hid hLt
    have HLn := Lib.hid hLn
    clear hL hR hLx hLt hLn
    go_wp2_with fail
    refine name_calls fun W44 hW44 => ?_
    have zW44 : W44.heap.size = w2.heap.size + 1 := by rw [hW44]; simp
    have H450 := (heap_new_at w2 (.cells #[.int .i64 r, .slice a xs.length c] 25 (0, 0)) (w2.heap.size) (by simp))
    rw [← hW44] at H450
    have H45 := Lib.hid H450
    clear H450
    have B46 := (below_alloc3 B4 (.cells #[.int .i64 r, .slice a xs.length c] 25 (0, 0)))
    rw [← hW44] at B46
    clear B4
    replace ix := (Ints.keep ix (Keeps.alloc _ (.cells #[.int .i64 r, .slice a xs.length c] 25 (0, 0))))
    rw [← hW44] at ix
    clear hW44
    refine (HI.out W44 ix).mono ?_
    rintro e w47 ⟨a1, c1, rfl, o1, b48⟩
    have zw47 := b48.size
    have B49 := B46.trans (b48.mono B46.size)
    clear B46
    replace H45 := Lib.hid ((b48.block _ (Array.getElem?_eq_some_iff.1 H45.out).1).trans H45.out)
    replace ix := Ints.below ix b48
    have i1 : Ints w47 a1 L := own_cells o1
    have hcap1 := own_cap o1
    clear o1
    obtain ⟨cc50, cc51⟩ := cells2 H45.out
    have ll52 := (Array.getElem?_eq_some_iff.1 H45.out).1
    go_wp2_with fail
    clear cc50 cc51 ll52
    refine name_calls fun W53 hW53 => ?_
    have zW53 : W53.heap.size = w47.heap.size + 1 := by rw [hW53]; simp
    have H540 := (heap_new_at w47 (.cells #[.int .i64 r, .slice a1 L.length c1] 25 (0, 0)) (w47.heap.size) (by simp))
    rw [← hW53] at H540
    have H54 := Lib.hid H540
    clear H540
    have B55 := (below_alloc3 B49 (.cells #[.int .i64 r, .slice a1 L.length c1] 25 (0, 0)))
    rw [← hW53] at B55
    clear B49
    have H450 := (box_alloc H45.out (.cells #[.int .i64 r, .slice a1 L.length c1] 25 (0, 0)))
    rw [← hW53] at H450
    clear H45
    have H45 := Lib.hid H450
    clear H450
    replace ix := (Ints.keep ix (Keeps.alloc _ (.cells #[.int .i64 r, .slice a1 L.length c1] 25 (0, 0))))
    rw [← hW53] at ix
    replace i1 := (Ints.keep i1 (Keeps.alloc _ (.cells #[.int .i64 r, .slice a1 L.length c1] 25 (0, 0))))
    rw [← hW53] at i1
    clear hW53
    refine (HJ.out W53 ix).mono ?_
    rintro e w56 ⟨a3, c3, rfl, o3, b57⟩
    have zw56 := b57.size
    have B58 := B55.trans (b57.mono B55.size)
    clear B55
    replace H45 := Lib.hid ((b57.block _ (Array.getElem?_eq_some_iff.1 H45.out).1).trans H45.out)
    replace H54 := Lib.hid ((b57.block _ (Array.getElem?_eq_some_iff.1 H54.out).1).trans H54.out)
    replace ix := Ints.below ix b57
    replace i1 := Ints.below i1 b57
    have i3 : Ints w56 a3 L := own_cells o3
    clear o3
    obtain ⟨cc59, cc60⟩ := cells2 H54.out
    have ll61 := (Array.getElem?_eq_some_iff.1 H54.out).1
    obtain ⟨cc62, cc63⟩ := cells2 H45.out
    have ll64 := (Array.getElem?_eq_some_iff.1 H45.out).1
    go_wp2_with fail
    clear cc59 cc60 ll61 cc62 cc63 ll64
    refine name_calls fun W65 hW65 => ?_
    have zW65 : W65.heap.size = w56.heap.size + 1 := by rw [hW65]; simp
    have H660 := (heap_new_at w56 (.cells #[.int .i64 r, .slice a3 L.length c3] 25 (0, 0)) (w56.heap.size) (by simp))
    rw [← hW65] at H660
    have H66 := Lib.hid H660
    clear H660
    have B67 := (below_alloc3 B58 (.cells #[.int .i64 r, .slice a3 L.length c3] 25 (0, 0)))
    rw [← hW65] at B67
    clear B58
    have H450 := (box_alloc H45.out (.cells #[.int .i64 r, .slice a3 L.length c3] 25 (0, 0)))
    rw [← hW65] at H450
    clear H45
    have H45 := Lib.hid H450
    clear H450
    have H540 := (box_alloc H54.out (.cells #[.int .i64 r, .slice a3 L.length c3] 25 (0, 0)))
    rw [← hW65] at H540
    clear H54
    have H54 := Lib.hid H540
    clear H540
    replace ix := (Ints.keep ix (Keeps.alloc _ (.cells #[.int .i64 r, .slice a3 L.length c3] 25 (0, 0))))
    rw [← hW65] at ix
    replace i1 := (Ints.keep i1 (Keeps.alloc _ (.cells #[.int .i64 r, .slice a3 L.length c3] 25 (0, 0))))
    rw [← hW65] at i1
    replace i3 := (Ints.keep i3 (Keeps.alloc _ (.cells #[.int .i64 r, .slice a3 L.length c3] 25 (0, 0))))
    rw [← hW65] at i3
    clear hW65
    refine (sameFifo_any r r a1 a3 L L c1 c3 W65 i1 i3 (by omega) (by omega)).mono ?_
    rintro e w68 ⟨rfl, b69⟩
    have zw68 := b69.size
    have B70 := B67.trans (b69.mono B67.size)
    clear B67
    replace H45 := Lib.hid ((b69.block _ (Array.getElem?_eq_some_iff.1 H45.out).1).trans H45.out)
    replace H54 := Lib.hid ((b69.block _ (Array.getElem?_eq_some_iff.1 H54.out).1).trans H54.out)
    replace H66 := Lib.hid ((b69.block _ (Array.getElem?_eq_some_iff.1 H66.out).1).trans H66.out)
    replace ix := Ints.below ix b69
    replace i1 := Ints.below i1 b69
    replace i3 := Ints.below i3 b69
    obtain ⟨g1, off1, y, rfl, ey, hy⟩ := i1.at_ (k := xs.length) (by have := HLn.out; omega)
    rw [HLx.out] at ey
    obtain rfl : x = y := by simpa using ey
    clear ey
    have py := fun p : After w68 => p.cell hy
    have hn0 : (0 : Int) ≤ (xs.length : Int) := by omega
    have hn1 : (xs.length : Int) < (L.length : Int) := by have := HLn.out; omega
    have hn2 : (xs.length : Int) ≤ (c1 : Int) := by have := HLn.out; omega
    have hnc : xs.length ≤ c1 := by omega
    have hc0 : c1 ≠ 0 := by have := HLn.out; omega
    have hS := HS.out
    have HF := Lib.hid (fun v h => implFifoValid_any r (some ⟨g1, off1, none⟩) L c1 v h (by omega))
    rw [hS] at HF
    obtain ⟨u71, u72⟩ := cells2 H54.out
    have pf73 := fun p : After w68 => p.cell u71
    have pf74 := fun p : After w68 => p.cell u72
    clear u71 u72
    obtain ⟨u75, u76⟩ := cells2 H45.out
    have pf77 := fun p : After w68 => p.cell u75
    have pf78 := fun p : After w68 => p.cell u76
    clear u75 u76
    have HT := Lib.hid (show Ints w68 (some ⟨g1, off1, none⟩) xs by have := i1.take xs.length; rwa [HLt.out] at this)
    obtain ⟨cc79, cc80⟩ := cells2 H54.out
    have ll81 := (Array.getElem?_eq_some_iff.1 H54.out).1
    go_wp2_with fail
    clear cc79 cc80 ll81
    refine wp_region_after (by kernel_rfl) (by kernel_rfl) ?_
    repeat (go_big_quiet_step ((first | (go_at_call 17; exact After.call (HF.out _ (Ints.keep i1 (After.keep _)))) | (go_at_call 18; exact After.call (sameInts_below _ a xs xs c1 c _ (HT.out.keep (After.keep _)) (ix.keep (After.keep _)) (by omega) (by omega))))))
    refine wpQuiet_nil ?_
    intro p
    go_wp2
    go_ret
    exact ⟨by simp, B70.trans (p.below.mono B70.size)⟩

set_option linter.unusedVariables false in
set_option maxRecDepth 100000 in
theorem FnFifoPut_lifted (os : Os) (started : os.Started) (H : Type) (enc : TypeId × Value → H) :
    ReturnsInHanded {} Try.checked os 3 .any (Rows.fnFifoPutSpec.pre6 enc Try.prog Try.f3 Rows.fnFifoPutRow.domain false) (Rows.fnFifoPutSpec.post enc Try.prog Try.f3 false true false false) := by
  refine returnsInHanded_of_change (C := Try.checked) own_knob started (by kernel_rfl) Try.func3
    (ChangeSpec.witness6 (enc := enc) (C := Try.checked) false ⟨#[], #[.slice none 0 0], []⟩ 8 (by kernel_rfl) (by kernel_rfl) (by kernel_rfl) (by kernel_rfl)) ?_
  intro W base args ds gs before hval0 hW hcnd _
  have hval : ∀ (j : Nat) t v, Try.f3.params[j]? = some t → args[j]? = some v → Value.okWide Try.prog W .any base t v := hval0
  have hW' := hW
  obtain ⟨p, q, hA0, hV, rfl, hfz, hnd⟩ := hW
  have hA : DataW.TrodAll enc Try.prog W 0 (fun _ => true) true Try.f3.params.toList args.toList ds p := hA0
  rw [Try.params3] at hA hval
  obtain ⟨v0, vs0, d0, ds0, p0, q0, hargs, rfl, rfl, h0, r0⟩ := trodAll_cons hA
  obtain ⟨rfl, rfl, rfl⟩ := trodAll_nil r0
  obtain rfl : args = #[v0] := by cases args; simp_all
  obtain ⟨rfl, rfl⟩ := trodVars_none hV
  have k0 := h0
  have lt0 : ∀ x ∈ p0, x.block < W.heap.size := by obtain ⟨m, hm⟩ := k0; exact DataW.trod_lt m _ _ _ hm
  obtain ⟨a0, len0, cap0, rfl⟩ := okWide_slice Try.underlying22 (hval 0 22 v0 rfl rfl)
  obtain ⟨z0, rfl, lc0, lm0, rz0⟩ : ∃ z : List Int, len0 = z.length ∧ z.length ≤ cap0 ∧ cap0 ≤ maxLen ∧ Bytes W a0 z := by
    obtain ⟨fuel, hf⟩ := h0
    obtain ⟨ao, cap, z, e, h1, h2, h3⟩ := rd_bytes hf
    simp [Value.cells] at e
    obtain ⟨rfl, rfl, rfl⟩ := e
    exact ⟨z, rfl, h1, h2, h3⟩
  have lb0 : z0.length ≤ cap0 := lc0
  clear hA0 hval0
  refine (FnFifoPut_walk a0 z0 cap0 W rz0 lc0 lm0).mono fun e W' ⟨he, bel⟩ => ?_
  subst he
  exact ⟨_, rfl, _, _, _, [], _, [], hW', trodAll_mk1 (shut_bool Try.underlying4 _), (trodAll_cons_mk (Below.trod laid_out (by kernel_rfl) (of_decide_eq_true (by kernel_rfl)) k0 bel lt0) trodAll_mk0), rfl, bel.frame _, fun h => by cases h⟩

theorem FnFifoPut_holds : Rows.FnFifoPutSaid :=
  OpenClaim.holds_of_wide 3 Try.f3 rfl rfl rfl rfl rfl rfl rfl ⟨rfl, rfl, rfl, rfl, rfl⟩ rfl rfl rfl rfl rfl (by kernel_rfl) Try.func3 (by kernel_rfl)
    (of_decide_eq_true (by kernel_rfl)) (by unfold Func.isWrapper; first | (rw [if_pos (by decide +kernel)]; kernel_rfl) | (rw [if_neg (by decide +kernel)]; exact ⟨rfl, rfl⟩))
    (fun os started H enc _ => FnFifoPut_lifted os started H enc)
end Go.Proofs.Ytfjdmdjoebjciaa
