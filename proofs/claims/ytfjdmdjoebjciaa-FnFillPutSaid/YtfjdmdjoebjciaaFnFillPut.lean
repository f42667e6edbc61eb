/- FnFillPut: Filling is putting one after the other. No conditions beyond the statement's own. -/
import Derived.Test.YtfjdmdjoebjciaaFillLaw
namespace Go.Proofs.Ytfjdmdjoebjciaa
open Go.ChangeShapes Go.WideShapes Go.ChangeAt Go.RowKit

set_option maxHeartbeats 4000000 in
set_option maxRecDepth 100000 in
theorem FnFillPut_walk (a0 : Option Addr) (z0 : List Int) (cap0 : Nat) (w : World) (rz0 : Bytes w a0 z0) (lc0 : z0.length ≤ cap0) (_lm0 : cap0 ≤ maxLen) :
    Calls Try.prog 8 #[.slice a0 z0.length cap0] w fun e w' => e = .returned (.bool true) ∧ Below w.heap.size w w' := by
  unfold maxLen at _lm0
  by_cases hn0 : (z0.length : Int) ≤ 1048576
  case neg =>
    have hn0' : (1048576 : Int) < (z0.length : Int) := by omega
    go_enter Try.func8, Try.ntmps8
    go_wp2
    go_ret
    exact ⟨rfl, Below.refl _ _⟩
  go_enter Try.func8, Try.ntmps8
  have B1 : Below w.heap.size w w := Below.refl _ _
  go_wp2_with fail
  refine (drawFifoFill_any a0 z0 cap0 w rz0 lc0 (by omega)).mono ?_
  rintro e w2 ⟨r, a, xs, c, bb, ys, d, rfl, lx, r0, r1, ly, ox, oy, b3⟩
  have zw2 := b3.size
  have B4 := B1.trans (b3.mono B1.size)
  clear B1
  have ix : Ints w2 a xs := own_cells ox
  have iy : Ints w2 bb ys := own_cells oy
  have HC := Lib.hid (own_nilcap ox)
  have HD := Lib.hid (own_nilcap oy)
  have hcd := own_cap oy
  have hcm := own_capmax oy
  clear ox oy
  have HI := Lib.hid (fun v h1 h2 => implFifoFill_any r a xs c bb ys d v h1 (by omega) h2 (by omega))
  have HJ := Lib.hid (fun v h1 h2 => specFifoFill_any r a xs c bb ys d v h1 (by omega) HC.out h2 (by omega) HD.out hcd hcm)
  cases hB : fillB r xs ys
  · rw [fillR_no hB] at HI HJ
    go_wp2_with fail
    refine name_calls fun W5 hW5 => ?_
    have zW5 : W5.heap.size = w2.heap.size + 1 := by rw [hW5]; simp
    have H60 := (heap_new_at w2 (.cells #[.int .i64 r, .slice a xs.length c] 25 (0, 0)) (w2.heap.size) (by simp))
    rw [← hW5] at H60
    have H6 := Lib.hid H60
    clear H60
    have B7 := (below_alloc3 B4 (.cells #[.int .i64 r, .slice a xs.length c] 25 (0, 0)))
    rw [← hW5] at B7
    clear B4
    replace ix := (Ints.keep ix (Keeps.alloc _ (.cells #[.int .i64 r, .slice a xs.length c] 25 (0, 0))))
    rw [← hW5] at ix
    replace iy := (Ints.keep iy (Keeps.alloc _ (.cells #[.int .i64 r, .slice a xs.length c] 25 (0, 0))))
    rw [← hW5] at iy
    clear hW5
    refine (HI.out W5 ix iy).mono ?_
    rintro e w8 ⟨a1, c1, a2, c2, rfl, o1, o2, ap1, b9⟩
    have zw8 := b9.size
    have B10 := B7.trans (b9.mono B7.size)
    clear B7
    replace H6 := Lib.hid ((b9.block _ (Array.getElem?_eq_some_iff.1 H6.out).1).trans H6.out)
    replace ix := Ints.below ix b9
    replace iy := Ints.below iy b9
    have i1 : Ints w8 a1 [] := own_cells o1
    have i2 : Ints w8 a2 [] := own_cells o2
    have HN1 := Lib.hid (own_nilcap o1)
    have HN2 := Lib.hid (own_nilcap o2)
    clear o1 o2 ap1
    obtain ⟨cc11, cc12⟩ := cells2 H6.out
    have ll13 := (Array.getElem?_eq_some_iff.1 H6.out).1
    go_wp2_with fail
    clear cc11 cc12 ll13
    refine name_calls fun W14 hW14 => ?_
    have zW14 : W14.heap.size = w8.heap.size + 1 := by rw [hW14]; simp
    have H150 := (heap_new_at w8 (.cells #[.int .i64 0, .slice a1 0 c1] 25 (0, 0)) (w8.heap.size) (by simp))
    rw [← hW14] at H150
    have H15 := Lib.hid H150
    clear H150
    have B16 := (below_alloc3 B10 (.cells #[.int .i64 0, .slice a1 0 c1] 25 (0, 0)))
    rw [← hW14] at B16
    clear B10
    have H60 := (box_alloc H6.out (.cells #[.int .i64 0, .slice a1 0 c1] 25 (0, 0)))
    rw [← hW14] at H60
    clear H6
    have H6 := Lib.hid H60
    clear H60
    replace ix := (Ints.keep ix (Keeps.alloc _ (.cells #[.int .i64 0, .slice a1 0 c1] 25 (0, 0))))
    rw [← hW14] at ix
    replace iy := (Ints.keep iy (Keeps.alloc _ (.cells #[.int .i64 0, .slice a1 0 c1] 25 (0, 0))))
    rw [← hW14] at iy
    replace i1 := (Ints.keep i1 (Keeps.alloc _ (.cells #[.int .i64 0, .slice a1 0 c1] 25 (0, 0))))
    rw [← hW14] at i1
    replace i2 := (Ints.keep i2 (Keeps.alloc _ (.cells #[.int .i64 0, .slice a1 0 c1] 25 (0, 0))))
    rw [← hW14] at i2
    clear hW14
    refine (HJ.out W14 ix iy).mono ?_
    rintro e w17 ⟨a3, c3, a4, c4, rfl, o3, o4, ap3, b18⟩
    have zw17 := b18.size
    have B19 := B16.trans (b18.mono B16.size)
    clear B16
    replace H6 := Lib.hid ((b18.block _ (Array.getElem?_eq_some_iff.1 H6.out).1).trans H6.out)
    replace H15 := Lib.hid ((b18.block _ (Array.getElem?_eq_some_iff.1 H15.out).1).trans H15.out)
    replace ix := Ints.below ix b18
    replace iy := Ints.below iy b18
    replace i1 := Ints.below i1 b18
    replace i2 := Ints.below i2 b18
    have i3 : Ints w17 a3 [] := own_cells o3
    have i4 : Ints w17 a4 [] := own_cells o4
    clear o3 o4 ap3
    go_wp2_with fail
    refine name_calls fun W20 hW20 => ?_
    have zW20 : W20.heap.size = w17.heap.size + 1 := by rw [hW20]; simp
    have H210 := (heap_new_at w17 (.cells #[.int .i64 0, .slice a3 0 c3] 25 (0, 0)) (w17.heap.size) (by simp))
    rw [← hW20] at H210
    have H21 := Lib.hid H210
    clear H210
    have B22 := (below_alloc3 B19 (.cells #[.int .i64 0, .slice a3 0 c3] 25 (0, 0)))
    rw [← hW20] at B22
    clear B19
    have H60 := (box_alloc H6.out (.cells #[.int .i64 0, .slice a3 0 c3] 25 (0, 0)))
    rw [← hW20] at H60
    clear H6
    have H6 := Lib.hid H60
    clear H60
    have H150 := (box_alloc H15.out (.cells #[.int .i64 0, .slice a3 0 c3] 25 (0, 0)))
    rw [← hW20] at H150
    clear H15
    have H15 := Lib.hid H150
    clear H150
    replace ix := (Ints.keep ix (Keeps.alloc _ (.cells #[.int .i64 0, .slice a3 0 c3] 25 (0, 0))))
    rw [← hW20] at ix
    replace iy := (Ints.keep iy (Keeps.alloc _ (.cells #[.int .i64 0, .slice a3 0 c3] 25 (0, 0))))
    rw [← hW20] at iy
    replace i1 := (Ints.keep i1 (Keeps.alloc _ (.cells #[.int .i64 0, .slice a3 0 c3] 25 (0, 0))))
    rw [← hW20] at i1
    replace i2 := (Ints.keep i2 (Keeps.alloc _ (.cells #[.int .i64 0, .slice a3 0 c3] 25 (0, 0))))
    rw [← hW20] at i2
    replace i3 := (Ints.keep i3 (Keeps.alloc _ (.cells #[.int .i64 0, .slice a3 0 c3] 25 (0, 0))))
    rw [← hW20] at i3
    replace i4 := (Ints.keep i4 (Keeps.alloc _ (.cells #[.int .i64 0, .slice a3 0 c3] 25 (0, 0))))
    rw [← hW20] at i4
    clear hW20
    refine (sameInts_below a2 a4 [] [] c2 c4 W20 i2 i4 (by first | omega | simp) (by first | omega | simp)).mono ?_
    rintro e w23 ⟨rfl, b24⟩
    have zw23 := b24.size
    have B25 := B22.trans (b24.mono B22.size)
    clear B22
    replace H6 := Lib.hid ((b24.block _ (Array.getElem?_eq_some_iff.1 H6.out).1).trans H6.out)
    replace H15 := Lib.hid ((b24.block _ (Array.getElem?_eq_some_iff.1 H15.out).1).trans H15.out)
    replace H21 := Lib.hid ((b24.block _ (Array.getElem?_eq_some_iff.1 H21.out).1).trans H21.out)
    replace ix := Ints.below ix b24
    replace iy := Ints.below iy b24
    replace i1 := Ints.below i1 b24
    replace i2 := Ints.below i2 b24
    replace i3 := Ints.below i3 b24
    replace i4 := Ints.below i4 b24
    obtain ⟨cc26, cc27⟩ := cells2 H15.out
    have ll28 := (Array.getElem?_eq_some_iff.1 H15.out).1
    obtain ⟨cc29, cc30⟩ := cells2 H21.out
    have ll31 := (Array.getElem?_eq_some_iff.1 H21.out).1
    obtain ⟨cc32, cc33⟩ := cells2 H6.out
    have ll34 := (Array.getElem?_eq_some_iff.1 H6.out).1
    go_wp2_with fail
    clear cc26 cc27 ll28 cc29 cc30 ll31 cc32 cc33 ll34
    refine (sameFifo_any 0 0 a1 a3 [] [] c1 c3 w23 i1 i3 (by first | omega | simp) (by first | omega | simp)).mono ?_
    rintro e w35 ⟨rfl, b36⟩
    have zw35 := b36.size
    have B37 := B25.trans (b36.mono B25.size)
    clear B25
    replace H6 := Lib.hid ((b36.block _ (Array.getElem?_eq_some_iff.1 H6.out).1).trans H6.out)
    replace H15 := Lib.hid ((b36.block _ (Array.getElem?_eq_some_iff.1 H15.out).1).trans H15.out)
    replace H21 := Lib.hid ((b36.block _ (Array.getElem?_eq_some_iff.1 H21.out).1).trans H21.out)
    replace ix := Ints.below ix b36
    replace iy := Ints.below iy b36
    replace i1 := Ints.below i1 b36
    replace i2 := Ints.below i2 b36
    replace i3 := Ints.below i3 b36
    replace i4 := Ints.below i4 b36
    go_wp2_with fail
    refine (sameInts_below a2 a4 [] [] c2 c4 w35 i2 i4 (by first | omega | simp) (by first | omega | simp)).mono ?_
    rintro e w38 ⟨rfl, b39⟩
    have zw38 := b39.size
    have B40 := B37.trans (b39.mono B37.size)
    clear B37
    replace H6 := Lib.hid ((b39.block _ (Array.getElem?_eq_some_iff.1 H6.out).1).trans H6.out)
    replace H15 := Lib.hid ((b39.block _ (Array.getElem?_eq_some_iff.1 H15.out).1).trans H15.out)
    replace H21 := Lib.hid ((b39.block _ (Array.getElem?_eq_some_iff.1 H21.out).1).trans H21.out)
    replace ix := Ints.below ix b39
    replace iy := Ints.below iy b39
    replace i1 := Ints.below i1 b39
    replace i2 := Ints.below i2 b39
    replace i3 := Ints.below i3 b39
    replace i4 := Ints.below i4 b39
    obtain ⟨cc41, cc42⟩ := cells2 H15.out
    have ll43 := (Array.getElem?_eq_some_iff.1 H15.out).1
    obtain ⟨cc44, cc45⟩ := cells2 H21.out
    have ll46 := (Array.getElem?_eq_some_iff.1 H21.out).1
    obtain ⟨cc47, cc48⟩ := cells2 H6.out
    have ll49 := (Array.getElem?_eq_some_iff.1 H6.out).1
    go_wp2_with fail
    clear cc41 cc42 ll43 cc44 cc45 ll46 cc47 cc48 ll49
    refine (sameFifo_any 0 0 a1 a3 [] [] c1 c3 w38 i1 i3 (by first | omega | simp) (by first | omega | simp)).mono ?_
    rintro e w50 ⟨rfl, b51⟩
    have zw50 := b51.size
    have B52 := B40.trans (b51.mono B40.size)
    clear B40
    replace H6 := Lib.hid ((b51.block _ (Array.getElem?_eq_some_iff.1 H6.out).1).trans H6.out)
    replace H15 := Lib.hid ((b51.block _ (Array.getElem?_eq_some_iff.1 H15.out).1).trans H15.out)
    replace H21 := Lib.hid ((b51.block _ (Array.getElem?_eq_some_iff.1 H21.out).1).trans H21.out)
    replace ix := Ints.below ix b51
    replace iy := Ints.below iy b51
    replace i1 := Ints.below i1 b51
    replace i2 := Ints.below i2 b51
    replace i3 := Ints.below i3 b51
    replace i4 := Ints.below i4 b51
    go_wp2
    go_ret
    exact ⟨rfl, B52⟩
  · have hff := hB
    simp only [fillB, Bool.and_eq_true, decide_eq_true_eq] at hff
    obtain ⟨hf, hl40, hbb⟩ := hff
    have hR := fillR_yes hB
    have hfl := fill_law hf hbb
    obtain ⟨L1, hL1⟩ : ∃ L1, L1 = xs ++ ys.take (fillN r xs) := ⟨_, rfl⟩
    obtain ⟨L2, hL2⟩ : ∃ L2, L2 = ys.drop (fillN r xs) := ⟨_, rfl⟩
    rw [← hL1, ← hL2] at hR hfl
    rw [hR] at HI HJ
    obtain ⟨hf1, hl1, hl2, hsum, hjoin⟩ := hfl
    have hf1x := fifoB_facts hf1
    have hq17 : L1.length ≤ 17 := by omega
    have hq41 : L2.length ≤ 41 := by omega
    have HL1e := Lib.hid hL1
    have HL1 := Lib.hid hl1
    have HL2 := Lib.hid hl2
    have HS := Lib.hid hsum
    have HJn := Lib.hid hjoin
    clear hR hf1x hl1 hl2 hsum hjoin hL1 hL2
    go_wp2_with fail
    refine name_calls fun W53 hW53 => ?_
    have zW53 : W53.heap.size = w2.heap.size + 1 := by rw [hW53]; simp
    have H540 := (heap_new_at w2 (.cells #[.int .i64 r, .slice a xs.length c] 25 (0, 0)) (w2.heap.size) (by simp))
    rw [← hW53] at H540
    have H54 := Lib.hid H540
    clear H540
    have B55 := (below_alloc3 B4 (.cells #[.int .i64 r, .slice a xs.length c] 25 (0, 0)))
    rw [← hW53] at B55
    clear B4
    replace ix := (Ints.keep ix (Keeps.alloc _ (.cells #[.int .i64 r, .slice a xs.length c] 25 (0, 0))))
    rw [← hW53] at ix
    replace iy := (Ints.keep iy (Keeps.alloc _ (.cells #[.int .i64 r, .slice a xs.length c] 25 (0, 0))))
    rw [← hW53] at iy
    clear hW53
    refine (HI.out W53 ix iy).mono ?_
    rintro e w56 ⟨a1, c1, a2, c2, rfl, o1, o2, ap1, b57⟩
    have zw56 := b57.size
    have B58 := B55.trans (b57.mono B55.size)
    clear B55
    replace H54 := Lib.hid ((b57.block _ (Array.getElem?_eq_some_iff.1 H54.out).1).trans H54.out)
    replace ix := Ints.below ix b57
    replace iy := Ints.below iy b57
    have i1 : Ints w56 a1 L1 := own_cells o1
    have i2 : Ints w56 a2 L2 := own_cells o2
    have HN1 := Lib.hid (own_nilcap o1)
    have HN2 := Lib.hid (own_nilcap o2)
    clear o1 o2 ap1
    obtain ⟨cc59, cc60⟩ := cells2 H54.out
    have ll61 := (Array.getElem?_eq_some_iff.1 H54.out).1
    go_wp2_with fail
    clear cc59 cc60 ll61
    refine name_calls fun W62 hW62 => ?_
    have zW62 : W62.heap.size = w56.heap.size + 1 := by rw [hW62]; simp
    have H630 := (heap_new_at w56 (.cells #[.int .i64 r, .slice a1 L1.length c1] 25 (0, 0)) (w56.heap.size) (by simp))
    rw [← hW62] at H630
    have H63 := Lib.hid H630
    clear H630
    have B64 := (below_alloc3 B58 (.cells #[.int .i64 r, .slice a1 L1.length c1] 25 (0, 0)))
    rw [← hW62] at B64
    clear B58
    have H540 := (box_alloc H54.out (.cells #[.int .i64 r, .slice a1 L1.length c1] 25 (0, 0)))
    rw [← hW62] at H540
    clear H54
    have H54 := Lib.hid H540
    clear H540
    replace ix := (Ints.keep ix (Keeps.alloc _ (.cells #[.int .i64 r, .slice a1 L1.length c1] 25 (0, 0))))
    rw [← hW62] at ix
    replace iy := (Ints.keep iy (Keeps.alloc _ (.cells #[.int .i64 r, .slice a1 L1.length c1] 25 (0, 0))))
    rw [← hW62] at iy
    replace i1 := (Ints.keep i1 (Keeps.alloc _ (.cells #[.int .i64 r, .slice a1 L1.length c1] 25 (0, 0))))
    rw [← hW62] at i1
    replace i2 := (Ints.keep i2 (Keeps.alloc _ (.cells #[.int .i64 r, .slice a1 L1.length c1] 25 (0, 0))))
    rw [← hW62] at i2
    clear hW62
    refine (HJ.out W62 ix iy).mono ?_
    rintro e w65 ⟨a3, c3, a4, c4, rfl, o3, o4, ap3, b66⟩
    have zw65 := b66.size
    have B67 := B64.trans (b66.mono B64.size)
    clear B64
    replace H54 := Lib.hid ((b66.block _ (Array.getElem?_eq_some_iff.1 H54.out).1).trans H54.out)
    replace H63 := Lib.hid ((b66.block _ (Array.getElem?_eq_some_iff.1 H63.out).1).trans H63.out)
    replace ix := Ints.below ix b66
    replace iy := Ints.below iy b66
    replace i1 := Ints.below i1 b66
    replace i2 := Ints.below i2 b66
    have i3 : Ints w65 a3 L1 := own_cells o3
    have i4 : Ints w65 a4 L2 := own_cells o4
    clear o3 o4 ap3
    go_wp2_with fail
    refine name_calls fun W68 hW68 => ?_
    have zW68 : W68.heap.size = w65.heap.size + 1 := by rw [hW68]; simp
    have H690 := (heap_new_at w65 (.cells #[.int .i64 r, .slice a3 L1.length c3] 25 (0, 0)) (w65.heap.size) (by simp))
    rw [← hW68] at H690
    have H69 := Lib.hid H690
    clear H690
    have B70 := (below_alloc3 B67 (.cells #[.int .i64 r, .slice a3 L1.length c3] 25 (0, 0)))
    rw [← hW68] at B70
    clear B67
    have H540 := (box_alloc H54.out (.cells #[.int .i64 r, .slice a3 L1.length c3] 25 (0, 0)))
    rw [← hW68] at H540
    clear H54
    have H54 := Lib.hid H540
    clear H540
    have H630 := (box_alloc H63.out (.cells #[.int .i64 r, .slice a3 L1.length c3] 25 (0, 0)))
    rw [← hW68] at H630
    clear H63
    have H63 := Lib.hid H630
    clear H630
    replace ix := (Ints.keep ix (Keeps.alloc _ (.cells #[.int .i64 r, .slice a3 L1.length c3] 25 (0, 0))))
    rw [← hW68] at ix
    replace iy := (Ints.keep iy (Keeps.alloc _ (.cells #[.int .i64 r, .slice a3 L1.length c3] 25 (0, 0))))
    rw [← hW68] at iy
    replace i1 := (Ints.keep i1 (Keeps.alloc _ (.cells #[.int .i64 r, .slice a3 L1.length c3] 25 (0, 0))))
    rw [← hW68] at i1
    replace i2 := (Ints.keep i2 (Keeps.alloc _ (.cells #[.int .i64 r, .slice a3 L1.length c3] 25 (0, 0))))
    rw [← hW68] at i2
    replace i3 := (Ints.keep i3 (Keeps.alloc _ (.cells #[.int .i64 r, .slice a3 L1.length c3] 25 (0, 0))))
    rw [← hW68] at i3
    replace i4 := (Ints.keep i4 (Keeps.alloc _ (.cells #[.int .i64 r, .slice a3 L1.length c3] 25 (0, 0))))
    rw [← hW68] at i4
    clear hW68
    refine (sameInts_below a2 a4 L2 L2 c2 c4 W68 i2 i4 (by first | omega | simp) (by first | omega | simp)).mono ?_
    rintro e w71 ⟨rfl, b72⟩
    have zw71 := b72.size
    have B73 := B70.trans (b72.mono B70.size)
    clear B70
    replace H54 := Lib.hid ((b72.block _ (Array.getElem?_eq_some_iff.1 H54.out).1).trans H54.out)
    replace H63 := Lib.hid ((b72.block _ (Array.getElem?_eq_some_iff.1 H63.out).1).trans H63.out)
    replace H69 := Lib.hid ((b72.block _ (Array.getElem?_eq_some_iff.1 H69.out).1).trans H69.out)
    replace ix := Ints.below ix b72
    replace iy := Ints.below iy b72
    replace i1 := Ints.below i1 b72
    replace i2 := Ints.below i2 b72
    replace i3 := Ints.below i3 b72
    replace i4 := Ints.below i4 b72
    obtain ⟨cc74, cc75⟩ := cells2 H63.out
    have ll76 := (Array.getElem?_eq_some_iff.1 H63.out).1
    obtain ⟨cc77, cc78⟩ := cells2 H69.out
    have ll79 := (Array.getElem?_eq_some_iff.1 H69.out).1
    obtain ⟨cc80, cc81⟩ := cells2 H54.out
    have ll82 := (Array.getElem?_eq_some_iff.1 H54.out).1
    go_wp2_with fail
    clear cc74 cc75 ll76 cc77 cc78 ll79 cc80 cc81 ll82
    refine (sameFifo_any r r a1 a3 L1 L1 c1 c3 w71 i1 i3 (by first | omega | simp) (by first | omega | simp)).mono ?_
    rintro e w83 ⟨rfl, b84⟩
    have zw83 := b84.size
    have B85 := B73.trans (b84.mono B73.size)
    clear B73
    replace H54 := Lib.hid ((b84.block _ (Array.getElem?_eq_some_iff.1 H54.out).1).trans H54.out)
    replace H63 := Lib.hid ((b84.block _ (Array.getElem?_eq_some_iff.1 H63.out).1).trans H63.out)
    replace H69 := Lib.hid ((b84.block _ (Array.getElem?_eq_some_iff.1 H69.out).1).trans H69.out)
    replace ix := Ints.below ix b84
    replace iy := Ints.below iy b84
    replace i1 := Ints.below i1 b84
    replace i2 := Ints.below i2 b84
    replace i3 := Ints.below i3 b84
    replace i4 := Ints.below i4 b84
    obtain ⟨cc86, cc87⟩ := cells2 H54.out
    have ll88 := (Array.getElem?_eq_some_iff.1 H54.out).1
    go_wp2_with fail
    clear cc86 cc87 ll88
    refine name_wp fun WX hWX => ?_
    have bX : Below w83.heap.size w83 WX := by rw [hWX]; exact (Below.refl _ _).alloc (Nat.le_refl _) _
    have hX0 : WX.heap[w83.heap.size]? = some (.cells #[.int .i64 r, .slice a xs.length c] 25 (0, 0)) := by rw [hWX]; exact heap_new_at _ _ _ rfl
    have zX : WX.heap.size = w83.heap.size + 1 := by rw [hWX]; simp
    clear hWX
    have hlL2 : (L2.length : Int) ≤ (ys.length : Int) := by have := HL2.out; omega
    obtain ⟨N, hN⟩ : ∃ N : Nat, N = ys.length - L2.length := ⟨_, rfl⟩
    have hNi : (ys.length : Int) - (L2.length : Int) = (N : Int) := by omega
    have hNmin : N = min (fillN r xs) ys.length := by have := HL2.out; omega
    have HNm := Lib.hid hNmin
    have hx0 : xs.length ≤ 16 := by have := fifoB_facts hf; omega
    have HF := Lib.hid hf
    have HBB := Lib.hid hbb
    have hbo := box_lt H63.out
    clear hf hbb hN hNmin
    have HP := Lib.hid (fun k (hk : k < N) v ax cx (x : Int) (hx : ys[k]? = some x) (hI : Ints v ax (xs ++ ys.take k)) => (show Calls Try.prog 14 #[.agg #[.int .i64 r, .slice ax (xs ++ ys.take k).length cx], .int .i64 x] v (PutP v ⟨r, xs ++ ys.take (k + 1), true⟩) by
      have hs := fill_step HF.out HBB.out (by have := HNm.out; omega) hx
      have := implFifoPut_any r ax (xs ++ ys.take k) cx x v hI (by rw [List.length_append, List.length_take]; omega)
      rwa [putR_yes hs, List.append_assoc, ← take_succ_of hx] at this))
    go_loopw [12] (fun i wr => ∃ (k : Nat) (ax : Option Addr) (cx : Nat) (X : List Int), k ≤ N ∧ i = .int .i64 k ∧ X = xs ++ ys.take k ∧ WX.heap.size ≤ wr.heap.size ∧ Below w83.heap.size w83 wr ∧ Ints wr ax X ∧ wr.heap[w83.heap.size]? = some (.cells #[.int .i64 r, .slice ax X.length cx] 25 (0, 0))) (fun i _ => N - (intOf i).toNat)
    case atStart => exact ⟨0, a, c, xs, Nat.zero_le _, rfl, by simp, Nat.le_refl _, bX, Ints.below ix bX, hX0⟩
    case round =>
      obtain ⟨k, ax, cx, X, hk, rfl, hX, hzr, hB, jx, gx⟩ := hrel
      have HXL := Lib.hid hX
      have hXl : X.length ≤ 57 := by rw [hX, List.length_append, List.length_take]; omega
      clear hX
      have hlx := box_lt gx
      by_cases hlt : k < N
      · have hlt2 : (k : Int) < (N : Int) := by omega
        have hkl : k < ys.length := by have := HNm.out; omega
        have hkl2 : (k : Int) < (ys.length : Int) := by omega
        obtain ⟨gy, offy, x, rfl, ex, hcx⟩ := (Ints.below iy hB).at_ hkl
        have EX := Lib.hid ex
        have hgy : gy < wr.heap.size := World.block_lt_of_cell? wr _ hcx
        have hgn : gy ≠ wr.heap.size := Nat.ne_of_lt hgy
        have hgn2 := Ne.symm hgn
        have hpn : w83.heap.size ≠ wr.heap.size := by omega
        have hpn2 := Ne.symm hpn
        obtain ⟨q0, q1⟩ := cells2 gx
        have GX := Lib.hid gx
        have HPk := Lib.hid (HP.out k hlt)
        obtain ⟨Y, hY⟩ : ∃ Y, Y = xs ++ ys.take (k + 1) := ⟨_, rfl⟩
        rw [← HXL.out, ← hY] at HPk
        have HY := Lib.hid hY
        clear ex gx hY
        go_upto_region 12 with fail
        go_cut [13, 14] from 79 to 87 (fun s13 s14 wx => ∃ gY a5 c5, s13 = .pointer (some ⟨gY, 0, none⟩) ∧ s14 = .bool true ∧ wx.heap[gY]? = some (.cells #[.int .i64 r, .slice a5 Y.length c5] 25 (0, 0)) ∧ OwnI wx wr.heap.size a5 c5 Y ∧ Below wr.heap.size wr wx ∧ wr.heap.size ≤ gY)
        case first =>
          go_region_held3 (fun v => v.cell? ⟨w83.heap.size, 0, none⟩ = some (.int .i64 r) ∧ v.cell? ⟨w83.heap.size, 1, none⟩ = some (.slice ax X.length cx) ∧ v.cell? ⟨gy, offy + k, none⟩ = some (.int .i64 x))
            (go_keep)
            (first
              | (go_at_call 14
                 first
                   | refine (HPk.out _ ax cx x EX.out (Ints.keep jx (Keeps.of_below (Below.refl _ _).drew))).mono ?_
                   | refine (HPk.out _ ax cx x EX.out (Ints.keep jx (Keeps.of_below ((Below.refl _ _).alloc (Nat.le_refl _) _).drew))).mono ?_
                 rintro e w5 ⟨a5, c5, rfl, o5, b5⟩
                 have b5w : Below wr.heap.size wr w5 := (by first | exact (Below.refl _ wr).drew.trans b5 | exact (((Below.refl _ wr).alloc (Nat.le_refl _) _).drew).trans (b5.mono (by simp)))
                 have q0' := Keeps.of_below b5w _ _ _ q0
                 have q1' := Keeps.of_below b5w _ _ _ q1
                 have hcx' := Keeps.of_below b5w _ _ _ hcx
                 have z5 := b5w.size
                 have hgn5 : gy ≠ w5.heap.size := by omega
                 have hgn6 := Ne.symm hgn5
                 have hpn5 : w83.heap.size ≠ w5.heap.size := by omega
                 have hpn6 := Ne.symm hpn5
                 first
                   | (have g13 := (b5.block _ (by simp)).trans (show (wr.alloc (.cells #[.int .i64 0, .slice none 0 0] 25)).drew.heap[wr.heap.size]? = _ from heap_new_at wr _ _ rfl); obtain ⟨q2, q3, q4, q5⟩ := two_cells g13)
                   | skip))
          all_goals
            go_wp2
            go_meet
            case rel =>
              refine ⟨_, a5, c5, rfl, rfl, ?_, ?_, ?_, ?_⟩
              · first | exact two_set g13 _ _ | exact two_set (heap_new_at w5 _ _ rfl) _ _ | exact heap_new_at w5 _ _ rfl
              · first
                  | exact own_base (own_set_ne (own_set_ne o5 _ _ (own_box_ne o5 g13 (by decide))) _ _ (own_box_ne o5 g13 (by decide))) (by simp)
                  | exact own_base (own_set_far (own_set_far (World.ownsRow.alloc o5 _) _ _ (by simp)) _ _ (by simp)) (by simp)
                  | exact own_base (World.ownsRow.alloc o5 _) (by simp)
              · repeat (first | exact b5w | refine Below.drew ?_ | refine below_allocB ?_ (Nat.le_refl _) _ | refine Below.setCell ?_ (by first | (simp; done) | (simp; omega)) _)
              · first | exact Nat.le_refl _ | omega
        case rest =>
          obtain ⟨gY, a5, c5, rfl, rfl, hY, oY, bY, hgY⟩ := hcut
          have hY5 := box_lt hY
          obtain ⟨y0, y1⟩ := cells2 hY
          have gx2 := (bY.block _ hlx).trans GX.out
          obtain ⟨x0, x1, x2, x3⟩ := two_cells gx2
          have GX2 := Lib.hid gx2
          have zY := bY.size
          have hB2 := hB.trans (bY.mono hB.size)
          clear hY gx2 q0 q1 hcx
          go_wp2
          go_roundw
          case rel =>
            refine ⟨k + 1, a5, c5, Y, by omega, by go_num, HY.out, by simp; omega, (hB2.setCell (by simp) _).setCell (by simp) _, ?_, two_set GX2.out _ _⟩
            exact own_cells (own_set (own_set oY _ _ (by simp; omega)) _ _ (by simp; omega))
          case measure => simp [intOf]; omega
      · have hkN : k = N := by omega
        have hkN2 : (N : Int) ≤ (k : Int) := by omega
        obtain rfl : X = L1 := by rw [HXL.out, hkN, HNm.out, take_min_self, ← HL1e.out]
        have j1 := Ints.below i1 hB
        obtain ⟨q0, q1⟩ := cells2 gx
        obtain ⟨q2, q3⟩ := cells2 ((hB.block _ hbo).trans H63.out)
        clear hlt
        go_wp2_with fail
        refine (sameFifo_any r r ax a1 X X cx c1 wr jx j1 (by omega) (by omega)).mono ?_
        rintro e wz ⟨rfl, bz⟩
        go_wp2
        go_ret
        exact ⟨by simp, (B85.trans (hB.mono B85.size)).trans (bz.mono (Nat.le_trans B85.size hB.size))⟩

set_option linter.unusedVariables false in
set_option maxRecDepth 100000 in
theorem FnFillPut_lifted (os : Os) (started : os.Started) (H : Type) (enc : TypeId × Value → H) :
    ReturnsInHanded {} Try.checked os 8 .any (Rows.fnFillPutSpec.pre6 enc Try.prog Try.f8 Rows.fnFillPutRow.domain false) (Rows.fnFillPutSpec.post enc Try.prog Try.f8 false true false false) := by
  refine returnsInHanded_of_change (C := Try.checked) own_knob started (by kernel_rfl) Try.func8
    (ChangeSpec.witness6 (enc := enc) (C := Try.checked) false ⟨#[], #[.slice none 0 0], []⟩ 8 (by kernel_rfl) (by kernel_rfl) (by kernel_rfl) (by kernel_rfl)) ?_
  intro W base args ds gs before hval0 hW hcnd _
  have hval : ∀ (j : Nat) t v, Try.f8.params[j]? = some t → args[j]? = some v → Value.okWide Try.prog W .any base t v := hval0
  have hW' := hW
  obtain ⟨p, q, hA0, hV, rfl, hfz, hnd⟩ := hW
  have hA : DataW.TrodAll enc Try.prog W 0 (fun _ => true) true Try.f8.params.toList args.toList ds p := hA0
  rw [Try.params8] at hA hval
  obtain ⟨v0, vs0, d0, ds0, p0, q0, hargs, rfl, rfl, h0, r0⟩ := trodAll_cons hA
  obtain ⟨rfl, rfl, rfl⟩ := trodAll_nil r0
  obtain rfl : args = #[v0] := by cases args; simp_all
  obtain ⟨rfl, rfl⟩ := trodVars_none hV
  have k0 := h0
  have lt0 : ∀ x ∈ p0, x.block < W.heap.size := by obtain ⟨m, hm⟩ := k0; exact DataW.trod_lt m _ _ _ hm
  obtain ⟨a0, len0, cap0, rfl⟩ := okWide_slice Try.underlying22 (hval 0 22 v0 rfl rfl)
  obtain ⟨z0, rfl, lc0, lm0, rz0⟩ : ∃ z : List Int, len0 = z.length ∧ z.length ≤ cap0 ∧ cap0 ≤ maxLen ∧ Bytes W a0 z := by
    obtain ⟨fuel, hf⟩ := h0
    obtain ⟨ao, cap, z, e, h1, h2, h3⟩ := rd_bytes hf
    simp [Value.cells] at e
    obtain ⟨rfl, rfl, rfl⟩ := e
    exact ⟨z, rfl, h1, h2, h3⟩
  have lb0 : z0.length ≤ cap0 := lc0
  clear hA0 hval0
  refine (FnFillPut_walk a0 z0 cap0 W rz0 lc0 lm0).mono fun e W' ⟨he, bel⟩ => ?_
  subst he
  exact ⟨_, rfl, _, _, _, [], _, [], hW', trodAll_mk1 (shut_bool Try.underlying4 _), (trodAll_cons_mk (Below.trod laid_out (by kernel_rfl) (of_decide_eq_true (by kernel_rfl)) k0 bel lt0) trodAll_mk0), rfl, bel.frame _, fun h => by cases h⟩

theorem FnFillPut_holds : Rows.FnFillPutSaid :=
  OpenClaim.holds_of_wide 8 Try.f8 rfl rfl rfl rfl rfl rfl rfl ⟨rfl, rfl, rfl, rfl, rfl⟩ rfl rfl rfl rfl rfl (by kernel_rfl) Try.func8 (by kernel_rfl)
    (of_decide_eq_true (by kernel_rfl)) (by unfold Func.isWrapper; first | (rw [if_pos (by decide +kernel)]; kernel_rfl) | (rw [if_neg (by decide +kernel)]; exact ⟨rfl, rfl⟩))
    (fun os started H enc _ => FnFillPut_lifted os started H enc)
end Go.Proofs.Ytfjdmdjoebjciaa
