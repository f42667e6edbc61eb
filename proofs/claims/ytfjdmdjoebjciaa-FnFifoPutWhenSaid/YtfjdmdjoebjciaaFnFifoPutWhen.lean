/- FnFifoPutWhen: A full queue takes nothing. No conditions beyond the statement's own. -/
import Derived.Test.YtfjdmdjoebjciaaFifoLaw
namespace Go.Proofs.Ytfjdmdjoebjciaa
open Go.ChangeShapes Go.WideShapes Go.ChangeAt Go.RowKit

set_option maxHeartbeats 4000000 in
set_option maxRecDepth 100000 in
theorem FnFifoPutWhen_walk (a0 : Option Addr) (z0 : List Int) (cap0 : Nat) (w : World) (rz0 : Bytes w a0 z0) (lc0 : z0.length ≤ cap0) (_lm0 : cap0 ≤ maxLen) :
    Calls Try.prog 4 #[.slice a0 z0.length cap0] w fun e w' => e = .returned (.bool true) ∧ Below w.heap.size w w' := by
  unfold maxLen at _lm0
  by_cases hn0 : (z0.length : Int) ≤ 1048576
  case neg =>
    have hn0' : (1048576 : Int) < (z0.length : Int) := by omega
    go_enter Try.func4, Try.ntmps4
    go_wp2
    go_ret
    exact ⟨rfl, Below.refl _ _⟩
  go_enter Try.func4, Try.ntmps4
  have B1 : Below w.heap.size w w := Below.refl _ _
  go_wp2_with fail
  refine (drawFifoPut_any a0 z0 cap0 w rz0 lc0 (by omega)).mono ?_
  rintro e w2 ⟨r, a, xs, c, x, rfl, lx, r0, r1, x0, x1, ox, b3⟩
  have zw2 := b3.size
  have B4 := B1.trans (b3.mono B1.size)
  clear B1
  have ix : Ints w2 a xs := own_cells ox
  have HC := Lib.hid (own_nilcap ox)
  clear ox
  have HI := Lib.hid (fun v h => implFifoPut_any r a xs c x v h (by omega))
  have HJ := Lib.hid (fun v h => specFifoPut_any r a xs c x v h (by omega) HC.out)
  cases hB : putB r xs x
  · cases hv : fifoB r xs
    · rw [putR_no hB] at HI HJ
      go_wp2_with fail
      refine name_calls fun W5 hW5 => ?_
      have zW5 : W5.heap.size = w2.heap.size + 1 := by rw [hW5]; simp
      have H60 := (heap_new_at w2 (.cells #[.int .i64 r, .slice a xs.length c] 25 (0, 0)) (w2.heap.size) (by simp))
      rw [← hW5] at H60
      have H6 := Lib.hid H60
      clear H60
      have B7 := (below_alloc3 B4 (.cells #[.int .i64 r, .slice a xs.length c] 25 (0, 0)))
      rw [← hW5] at B7
      clear B4
      replace ix := (Ints.keep ix (Keeps.alloc _ (.cells #[.int .i64 r, .slice a xs.length c] 25 (0, 0))))
      rw [← hW5] at ix
      clear hW5
      refine (HI.out W5 ix).mono ?_
      rintro e w8 ⟨a1, c1, rfl, o1, b9⟩
      have zw8 := b9.size
      have B10 := B7.trans (b9.mono B7.size)
      clear B7
      replace H6 := Lib.hid ((b9.block _ (Array.getElem?_eq_some_iff.1 H6.out).1).trans H6.out)
      replace ix := Ints.below ix b9
      have i1 : Ints w8 a1 [] := own_cells o1
      have hcap1 := own_cap o1
      clear o1
      obtain ⟨cc11, cc12⟩ := cells2 H6.out
      have ll13 := (Array.getElem?_eq_some_iff.1 H6.out).1
      go_wp2_with fail
      clear cc11 cc12 ll13
      refine name_calls fun W14 hW14 => ?_
      have zW14 : W14.heap.size = w8.heap.size + 1 := by rw [hW14]; simp
      have H150 := (heap_new_at w8 (.cells #[.int .i64 0, .slice a1 0 c1] 25 (0, 0)) (w8.heap.size) (by simp))
      rw [← hW14] at H150
      have H15 := Lib.hid H150
      clear H150
      have B16 := (below_alloc3 B10 (.cells #[.int .i64 0, .slice a1 0 c1] 25 (0, 0)))
      rw [← hW14] at B16
      clear B10
      have H60 := (box_alloc H6.out (.cells #[.int .i64 0, .slice a1 0 c1] 25 (0, 0)))
      rw [← hW14] at H60
      clear H6
      have H6 := Lib.hid H60
      clear H60
      replace ix := (Ints.keep ix (Keeps.alloc _ (.cells #[.int .i64 0, .slice a1 0 c1] 25 (0, 0))))
      rw [← hW14] at ix
      replace i1 := (Ints.keep i1 (Keeps.alloc _ (.cells #[.int .i64 0, .slice a1 0 c1] 25 (0, 0))))
      rw [← hW14] at i1
      clear hW14
      refine (HJ.out W14 ix).mono ?_
      rintro e w17 ⟨a3, c3, rfl, o3, b18⟩
      have zw17 := b18.size
      have B19 := B16.trans (b18.mono B16.size)
      clear B16
      replace H6 := Lib.hid ((b18.block _ (Array.getElem?_eq_some_iff.1 H6.out).1).trans H6.out)
      replace H15 := Lib.hid ((b18.block _ (Array.getElem?_eq_some_iff.1 H15.out).1).trans H15.out)
      replace ix := Ints.below ix b18
      replace i1 := Ints.below i1 b18
      have i3 : Ints w17 a3 [] := own_cells o3
      clear o3
      obtain ⟨cc20, cc21⟩ := cells2 H15.out
      have ll22 := (Array.getElem?_eq_some_iff.1 H15.out).1
      obtain ⟨cc23, cc24⟩ := cells2 H6.out
      have ll25 := (Array.getElem?_eq_some_iff.1 H6.out).1
      go_wp2_with fail
      clear cc20 cc21 ll22 cc23 cc24 ll25
      refine name_calls fun W26 hW26 => ?_
      have zW26 : W26.heap.size = w17.heap.size + 1 := by rw [hW26]; simp
      have H270 := (heap_new_at w17 (.cells #[.int .i64 0, .slice a3 0 c3] 25 (0, 0)) (w17.heap.size) (by simp))
      rw [← hW26] at H270
      have H27 := Lib.hid H270
      clear H270
      have B28 := (below_alloc3 B19 (.cells #[.int .i64 0, .slice a3 0 c3] 25 (0, 0)))
      rw [← hW26] at B28
      clear B19
      have H60 := (box_alloc H6.out (.cells #[.int .i64 0, .slice a3 0 c3] 25 (0, 0)))
      rw [← hW26] at H60
      clear H6
      have H6 := Lib.hid H60
      clear H60
      have H150 := (box_alloc H15.out (.cells #[.int .i64 0, .slice a3 0 c3] 25 (0, 0)))
      rw [← hW26] at H150
      clear H15
      have H15 := Lib.hid H150
      clear H150
      replace ix := (Ints.keep ix (Keeps.alloc _ (.cells #[.int .i64 0, .slice a3 0 c3] 25 (0, 0))))
      rw [← hW26] at ix
      replace i1 := (Ints.keep i1 (Keeps.alloc _ (.cells #[.int .i64 0, .slice a3 0 c3] 25 (0, 0))))
      rw [← hW26] at i1
      replace i3 := (Ints.keep i3 (Keeps.alloc _ (.cells #[.int .i64 0, .slice a3 0 c3] 25 (0, 0))))
      rw [← hW26] at i3
      clear hW26
      refine (sameFifo_any 0 0 a1 a3 [] [] c1 c3 W26 i1 i3 (by simp) (by simp)).mono ?_
      rintro e w29 ⟨rfl, b30⟩
      have zw29 := b30.size
      have B31 := B28.trans (b30.mono B28.size)
      clear B28
      replace H6 := Lib.hid ((b30.block _ (Array.getElem?_eq_some_iff.1 H6.out).1).trans H6.out)
      replace H15 := Lib.hid ((b30.block _ (Array.getElem?_eq_some_iff.1 H15.out).1).trans H15.out)
      replace H27 := Lib.hid ((b30.block _ (Array.getElem?_eq_some_iff.1 H27.out).1).trans H27.out)
      replace ix := Ints.below ix b30
      replace i1 := Ints.below i1 b30
      replace i3 := Ints.below i3 b30
      obtain ⟨cc32, cc33⟩ := cells2 H6.out
      have ll34 := (Array.getElem?_eq_some_iff.1 H6.out).1
      go_wp2_with fail
      clear cc32 cc33 ll34
      refine (specFifoValid_any r a xs c w29 ix (by omega)).mono ?_
      rintro e w35 ⟨rfl, b36⟩
      have zw35 := b36.size
      have B37 := B31.trans (b36.mono B31.size)
      clear B31
      replace H6 := Lib.hid ((b36.block _ (Array.getElem?_eq_some_iff.1 H6.out).1).trans H6.out)
      replace H15 := Lib.hid ((b36.block _ (Array.getElem?_eq_some_iff.1 H15.out).1).trans H15.out)
      replace H27 := Lib.hid ((b36.block _ (Array.getElem?_eq_some_iff.1 H27.out).1).trans H27.out)
      replace ix := Ints.below ix b36
      replace i1 := Ints.below i1 b36
      replace i3 := Ints.below i3 b36
      obtain ⟨cc38, cc39⟩ := cells2 H15.out
      have ll40 := (Array.getElem?_eq_some_iff.1 H15.out).1
      obtain ⟨cc41, cc42⟩ := cells2 H27.out
      have ll43 := (Array.getElem?_eq_some_iff.1 H27.out).1
      obtain ⟨cc44, cc45⟩ := cells2 H6.out
      have ll46 := (Array.getElem?_eq_some_iff.1 H6.out).1
      go_wp2_with fail
      clear cc38 cc39 ll40 cc41 cc42 ll43 cc44 cc45 ll46
      refine (sameFifo_any 0 0 a1 a3 [] [] c1 c3 w35 i1 i3 (by simp) (by simp)).mono ?_
      rintro e w47 ⟨rfl, b48⟩
      have zw47 := b48.size
      have B49 := B37.trans (b48.mono B37.size)
      clear B37
      replace H6 := Lib.hid ((b48.block _ (Array.getElem?_eq_some_iff.1 H6.out).1).trans H6.out)
      replace H15 := Lib.hid ((b48.block _ (Array.getElem?_eq_some_iff.1 H15.out).1).trans H15.out)
      replace H27 := Lib.hid ((b48.block _ (Array.getElem?_eq_some_iff.1 H27.out).1).trans H27.out)
      replace ix := Ints.below ix b48
      replace i1 := Ints.below i1 b48
      replace i3 := Ints.below i3 b48
      go_wp2
      go_ret
      exact ⟨rfl, B49⟩
    · rw [putR_no hB] at HI HJ
      go_wp2_with fail
      refine name_calls fun W50 hW50 => ?_
      have zW50 : W50.heap.size = w2.heap.size + 1 := by rw [hW50]; simp
      have H510 := (heap_new_at w2 (.cells #[.int .i64 r, .slice a xs.length c] 25 (0, 0)) (w2.heap.size) (by simp))
      rw [← hW50] at H510
      have H51 := Lib.hid H510
      clear H510
      have B52 := (below_alloc3 B4 (.cells #[.int .i64 r, .slice a xs.length c] 25 (0, 0)))
      rw [← hW50] at B52
      clear B4
      replace ix := (Ints.keep ix (Keeps.alloc _ (.cells #[.int .i64 r, .slice a xs.length c] 25 (0, 0))))
      rw [← hW50] at ix
      clear hW50
      refine (HI.out W50 ix).mono ?_
      rintro e w53 ⟨a1, c1, rfl, o1, b54⟩
      have zw53 := b54.size
      have B55 := B52.trans (b54.mono B52.size)
      clear B52
      replace H51 := Lib.hid ((b54.block _ (Array.getElem?_eq_some_iff.1 H51.out).1).trans H51.out)
      replace ix := Ints.below ix b54
      have i1 : Ints w53 a1 [] := own_cells o1
      have hcap1 := own_cap o1
      clear o1
      obtain ⟨cc56, cc57⟩ := cells2 H51.out
      have ll58 := (Array.getElem?_eq_some_iff.1 H51.out).1
      go_wp2_with fail
      clear cc56 cc57 ll58
      refine name_calls fun W59 hW59 => ?_
      have zW59 : W59.heap.size = w53.heap.size + 1 := by rw [hW59]; simp
      have H600 := (heap_new_at w53 (.cells #[.int .i64 0, .slice a1 0 c1] 25 (0, 0)) (w53.heap.size) (by simp))
      rw [← hW59] at H600
      have H60 := Lib.hid H600
      clear H600
      have B61 := (below_alloc3 B55 (.cells #[.int .i64 0, .slice a1 0 c1] 25 (0, 0)))
      rw [← hW59] at B61
      clear B55
      have H510 := (box_alloc H51.out (.cells #[.int .i64 0, .slice a1 0 c1] 25 (0, 0)))
      rw [← hW59] at H510
      clear H51
      have H51 := Lib.hid H510
      clear H510
      replace ix := (Ints.keep ix (Keeps.alloc _ (.cells #[.int .i64 0, .slice a1 0 c1] 25 (0, 0))))
      rw [← hW59] at ix
      replace i1 := (Ints.keep i1 (Keeps.alloc _ (.cells #[.int .i64 0, .slice a1 0 c1] 25 (0, 0))))
      rw [← hW59] at i1
      clear hW59
      refine (HJ.out W59 ix).mono ?_
      rintro e w62 ⟨a3, c3, rfl, o3, b63⟩
      have zw62 := b63.size
      have B64 := B61.trans (b63.mono B61.size)
      clear B61
      replace H51 := Lib.hid ((b63.block _ (Array.getElem?_eq_some_iff.1 H51.out).1).trans H51.out)
      replace H60 := Lib.hid ((b63.block _ (Array.getElem?_eq_some_iff.1 H60.out).1).trans H60.out)
      replace ix := Ints.below ix b63
      replace i1 := Ints.below i1 b63
      have i3 : Ints w62 a3 [] := own_cells o3
      clear o3
      obtain ⟨cc65, cc66⟩ := cells2 H60.out
      have ll67 := (Array.getElem?_eq_some_iff.1 H60.out).1
      obtain ⟨cc68, cc69⟩ := cells2 H51.out
      have ll70 := (Array.getElem?_eq_some_iff.1 H51.out).1
      go_wp2_with fail
      clear cc65 cc66 ll67 cc68 cc69 ll70
      refine name_calls fun W71 hW71 => ?_
      have zW71 : W71.heap.size = w62.heap.size + 1 := by rw [hW71]; simp
      have H720 := (heap_new_at w62 (.cells #[.int .i64 0, .slice a3 0 c3] 25 (0, 0)) (w62.heap.size) (by simp))
      rw [← hW71] at H720
      have H72 := Lib.hid H720
      clear H720
      have B73 := (below_alloc3 B64 (.cells #[.int .i64 0, .slice a3 0 c3] 25 (0, 0)))
      rw [← hW71] at B73
      clear B64
      have H510 := (box_alloc H51.out (.cells #[.int .i64 0, .slice a3 0 c3] 25 (0, 0)))
      rw [← hW71] at H510
      clear H51
      have H51 := Lib.hid H510
      clear H510
      have H600 := (box_alloc H60.out (.cells #[.int .i64 0, .slice a3 0 c3] 25 (0, 0)))
      rw [← hW71] at H600
      clear H60
      have H60 := Lib.hid H600
      clear H600
      replace ix := (Ints.keep ix (Keeps.alloc _ (.cells #[.int .i64 0, .slice a3 0 c3] 25 (0, 0))))
      rw [← hW71] at ix
      replace i1 := (Ints.keep i1 (Keeps.alloc _ (.cells #[.int .i64 0, .slice a3 0 c3] 25 (0, 0))))
      rw [← hW71] at i1
      replace i3 := (Ints.keep i3 (Keeps.alloc _ (.cells #[.int .i64 0, .slice a3 0 c3] 25 (0, 0))))
      rw [← hW71] at i3
      clear hW71
      refine (sameFifo_any 0 0 a1 a3 [] [] c1 c3 W71 i1 i3 (by simp) (by simp)).mono ?_
      rintro e w74 ⟨rfl, b75⟩
      have zw74 := b75.size
      have B76 := B73.trans (b75.mono B73.size)
      clear B73
      replace H51 := Lib.hid ((b75.block _ (Array.getElem?_eq_some_iff.1 H51.out).1).trans H51.out)
      replace H60 := Lib.hid ((b75.block _ (Array.getElem?_eq_some_iff.1 H60.out).1).trans H60.out)
      replace H72 := Lib.hid ((b75.block _ (Array.getElem?_eq_some_iff.1 H72.out).1).trans H72.out)
      replace ix := Ints.below ix b75
      replace i1 := Ints.below i1 b75
      replace i3 := Ints.below i3 b75
      obtain ⟨cc77, cc78⟩ := cells2 H51.out
      have ll79 := (Array.getElem?_eq_some_iff.1 H51.out).1
      go_wp2_with fail
      clear cc77 cc78 ll79
      refine (specFifoValid_any r a xs c w74 ix (by omega)).mono ?_
      rintro e w80 ⟨rfl, b81⟩
      have zw80 := b81.size
      have B82 := B76.trans (b81.mono B76.size)
      clear B76
      replace H51 := Lib.hid ((b81.block _ (Array.getElem?_eq_some_iff.1 H51.out).1).trans H51.out)
      replace H60 := Lib.hid ((b81.block _ (Array.getElem?_eq_some_iff.1 H60.out).1).trans H60.out)
      replace H72 := Lib.hid ((b81.block _ (Array.getElem?_eq_some_iff.1 H72.out).1).trans H72.out)
      replace ix := Ints.below ix b81
      replace i1 := Ints.below i1 b81
      replace i3 := Ints.below i3 b81
      by_cases hx0 : x < 0
      · obtain ⟨cc83, cc84⟩ := cells2 H60.out
        have ll85 := (Array.getElem?_eq_some_iff.1 H60.out).1
        obtain ⟨cc86, cc87⟩ := cells2 H72.out
        have ll88 := (Array.getElem?_eq_some_iff.1 H72.out).1
        obtain ⟨cc89, cc90⟩ := cells2 H51.out
        have ll91 := (Array.getElem?_eq_some_iff.1 H51.out).1
        go_wp2_with fail
        clear cc83 cc84 ll85 cc86 cc87 ll88 cc89 cc90 ll91
        refine (sameFifo_any 0 0 a1 a3 [] [] c1 c3 w80 i1 i3 (by simp) (by simp)).mono ?_
        rintro e w92 ⟨rfl, b93⟩
        have zw92 := b93.size
        have B94 := B82.trans (b93.mono B82.size)
        clear B82
        replace H51 := Lib.hid ((b93.block _ (Array.getElem?_eq_some_iff.1 H51.out).1).trans H51.out)
        replace H60 := Lib.hid ((b93.block _ (Array.getElem?_eq_some_iff.1 H60.out).1).trans H60.out)
        replace H72 := Lib.hid ((b93.block _ (Array.getElem?_eq_some_iff.1 H72.out).1).trans H72.out)
        replace ix := Ints.below ix b93
        replace i1 := Ints.below i1 b93
        replace i3 := Ints.below i3 b93
        go_wp2
        go_ret
        exact ⟨rfl, B94⟩
      · have hx0b : 0 ≤ x := by omega
        clear hx0
        by_cases hx5 : 255 < x
        · obtain ⟨cc95, cc96⟩ := cells2 H60.out
          have ll97 := (Array.getElem?_eq_some_iff.1 H60.out).1
          obtain ⟨cc98, cc99⟩ := cells2 H72.out
          have ll100 := (Array.getElem?_eq_some_iff.1 H72.out).1
          obtain ⟨cc101, cc102⟩ := cells2 H51.out
          have ll103 := (Array.getElem?_eq_some_iff.1 H51.out).1
          go_wp2_with fail
          clear cc95 cc96 ll97 cc98 cc99 ll100 cc101 cc102 ll103
          refine (sameFifo_any 0 0 a1 a3 [] [] c1 c3 w80 i1 i3 (by simp) (by simp)).mono ?_
          rintro e w104 ⟨rfl, b105⟩
          have zw104 := b105.size
          have B106 := B82.trans (b105.mono B82.size)
          clear B82
          replace H51 := Lib.hid ((b105.block _ (Array.getElem?_eq_some_iff.1 H51.out).1).trans H51.out)
          replace H60 := Lib.hid ((b105.block _ (Array.getElem?_eq_some_iff.1 H60.out).1).trans H60.out)
          replace H72 := Lib.hid ((b105.block _ (Array.getElem?_eq_some_iff.1 H72.out).1).trans H72.out)
          replace ix := Ints.below ix b105
          replace i1 := Ints.below i1 b105
          replace i3 := Ints.below i3 b105
          go_wp2
          go_ret
          exact ⟨rfl, B106⟩
        · have hx5b : x ≤ 255 := by omega
          clear hx5
          have hnl : r ≤ (xs.length : Int) := by
            simp only [putB, hv, byteB, Bool.true_and, Bool.and_eq_false_iff, decide_eq_false_iff_not] at hB
            rcases hB with h | h
            · exact absurd hx0b (by omega)
            · omega
          have hnd : decide ((xs.length : Int) < r) = false := by simpa using hnl
          obtain ⟨cc107, cc108⟩ := cells2 H51.out
          have ll109 := (Array.getElem?_eq_some_iff.1 H51.out).1
          go_wp2
          go_ret
          exact ⟨rfl, B82⟩
  · have hff := hB
    simp only [putB, Bool.and_eq_true, decide_eq_true_eq] at hff
    obtain ⟨hf, hb, hl⟩ := hff
    have hfa := fifoB_facts hf
    have HS := Lib.hid (show fifoB r (xs ++ [x]) = true from fifoB_snoc hf hb hl)
    have hR := putR_yes hB
    obtain ⟨L, hL⟩ : ∃ L, L = xs ++ [x] := ⟨_, rfl⟩
    rw [← hL] at hR HS
    rw [hR] at HI HJ
    have hLl : (L.length : Int) - 1 = (xs.length : Int) := by rw [hL]; simp
    have hLn : L.length = xs.length + 1 := by rw [hL]; simp
    have hLx : L[xs.length]? = some x := by rw [hL]; simp
    have hLt : L.take xs.length = xs := by rw [hL]; simp
    have hL17 : L.length ≤ 17 := by omega
    have HLx := Lib.hid hLx
    have HLt := Lib.hid hLt
    have HLn := Lib.hid hLn
    clear hL hR hLx hLt hLn
    go_wp2_with fail
    refine name_calls fun W110 hW110 => ?_
    have zW110 : W110.heap.size = w2.heap.size + 1 := by rw [hW110]; simp
    have H1110 := (heap_new_at w2 (.cells #[.int .i64 r, .slice a xs.length c] 25 (0, 0)) (w2.heap.size) (by simp))
    rw [← hW110] at H1110
    have H111 := Lib.hid H1110
    clear H1110
    have B112 := (below_alloc3 B4 (.cells #[.int .i64 r, .slice a xs.length c] 25 (0, 0)))
    rw [← hW110] at B112
    clear B4
    replace ix := (Ints.keep ix (Keeps.alloc _ (.cells #[.int .i64 r, .slice a xs.length c] 25 (0, 0))))
    rw [← hW110] at ix
    clear hW110
    refine (HI.out W110 ix).mono ?_
    rintro e w113 ⟨a1, c1, rfl, o1, b114⟩
    have zw113 := b114.size
    have B115 := B112.trans (b114.mono B112.size)
    clear B112
    replace H111 := Lib.hid ((b114.block _ (Array.getElem?_eq_some_iff.1 H111.out).1).trans H111.out)
    replace ix := Ints.below ix b114
    have i1 : Ints w113 a1 L := own_cells o1
    have hcap1 := own_cap o1
    clear o1
    obtain ⟨cc116, cc117⟩ := cells2 H111.out
    have ll118 := (Array.getElem?_eq_some_iff.1 H111.out).1
    go_wp2_with fail
    clear cc116 cc117 ll118
    refine name_calls fun W119 hW119 => ?_
    have zW119 : W119.heap.size = w113.heap.size + 1 := by rw [hW119]; simp
    have H1200 := (heap_new_at w113 (.cells #[.int .i64 r, .slice a1 L.length c1] 25 (0, 0)) (w113.heap.size) (by simp))
    rw [← hW119] at H1200
    have H120 := Lib.hid H1200
    clear H1200
    have B121 := (below_alloc3 B115 (.cells #[.int .i64 r, .slice a1 L.length c1] 25 (0, 0)))
    rw [← hW119] at B121
    clear B115
    have H1110 := (box_alloc H111.out (.cells #[.int .i64 r, .slice a1 L.length c1] 25 (0, 0)))
    rw [← hW119] at H1110
    clear H111
    have H111 := Lib.hid H1110
    clear H1110
    replace ix := (Ints.keep ix (Keeps.alloc _ (.cells #[.int .i64 r, .slice a1 L.length c1] 25 (0, 0))))
    rw [← hW119] at ix
    replace i1 := (Ints.keep i1 (Keeps.alloc _ (.cells #[.int .i64 r, .slice a1 L.length c1] 25 (0, 0))))
    rw [← hW119] at i1
    clear hW119
    refine (HJ.out W119 ix).mono ?_
    rintro e w122 ⟨a3, c3, rfl, o3, b123⟩
    have zw122 := b123.size
    have B124 := B121.trans (b123.mono B121.size)
    clear B121
    replace H111 := Lib.hid ((b123.block _ (Array.getElem?_eq_some_iff.1 H111.out).1).trans H111.out)
    replace H120 := Lib.hid ((b123.block _ (Array.getElem?_eq_some_iff.1 H120.out).1).trans H120.out)
    replace ix := Ints.below ix b123
    replace i1 := Ints.below i1 b123
    have i3 : Ints w122 a3 L := own_cells o3
    clear o3
    obtain ⟨cc125, cc126⟩ := cells2 H120.out
    have ll127 := (Array.getElem?_eq_some_iff.1 H120.out).1
    obtain ⟨cc128, cc129⟩ := cells2 H111.out
    have ll130 := (Array.getElem?_eq_some_iff.1 H111.out).1
    go_wp2_with fail
    clear cc125 cc126 ll127 cc128 cc129 ll130
    refine name_calls fun W131 hW131 => ?_
    have zW131 : W131.heap.size = w122.heap.size + 1 := by rw [hW131]; simp
    have H1320 := (heap_new_at w122 (.cells #[.int .i64 r, .slice a3 L.length c3] 25 (0, 0)) (w122.heap.size) (by simp))
    rw [← hW131] at H1320
    have H132 := Lib.hid H1320
    clear H1320
    have B133 := (below_alloc3 B124 (.cells #[.int .i64 r, .slice a3 L.length c3] 25 (0, 0)))
    rw [← hW131] at B133
    clear B124
    have H1110 := (box_alloc H111.out (.cells #[.int .i64 r, .slice a3 L.length c3] 25 (0, 0)))
    rw [← hW131] at H1110
    clear H111
    have H111 := Lib.hid H1110
    clear H1110
    have H1200 := (box_alloc H120.out (.cells #[.int .i64 r, .slice a3 L.length c3] 25 (0, 0)))
    rw [← hW131] at H1200
    clear H120
    have H120 := Lib.hid H1200
    clear H1200
    replace ix := (Ints.keep ix (Keeps.alloc _ (.cells #[.int .i64 r, .slice a3 L.length c3] 25 (0, 0))))
    rw [← hW131] at ix
    replace i1 := (Ints.keep i1 (Keeps.alloc _ (.cells #[.int .i64 r, .slice a3 L.length c3] 25 (0, 0))))
    rw [← hW131] at i1
    replace i3 := (Ints.keep i3 (Keeps.alloc _ (.cells #[.int .i64 r, .slice a3 L.length c3] 25 (0, 0))))
    rw [← hW131] at i3
    clear hW131
    refine (sameFifo_any r r a1 a3 L L c1 c3 W131 i1 i3 (by omega) (by omega)).mono ?_
    rintro e w134 ⟨rfl, b135⟩
    have zw134 := b135.size
    have B136 := B133.trans (b135.mono B133.size)
    clear B133
    replace H111 := Lib.hid ((b135.block _ (Array.getElem?_eq_some_iff.1 H111.out).1).trans H111.out)
    replace H120 := Lib.hid ((b135.block _ (Array.getElem?_eq_some_iff.1 H120.out).1).trans H120.out)
    replace H132 := Lib.hid ((b135.block _ (Array.getElem?_eq_some_iff.1 H132.out).1).trans H132.out)
    replace ix := Ints.below ix b135
    replace i1 := Ints.below i1 b135
    replace i3 := Ints.below i3 b135
    have hbb := hb
    simp only [byteB, decide_eq_true_eq] at hbb
    have hbb0 := hbb.1
    have hbb1 := hbb.2
    clear hbb hb
    obtain ⟨cc137, cc138⟩ := cells2 H111.out
    have ll139 := (Array.getElem?_eq_some_iff.1 H111.out).1
    go_wp2_with fail
    clear cc137 cc138 ll139
    refine (specFifoValid_any r a xs c w134 ix (by omega)).mono ?_
    rintro e w140 ⟨rfl, b141⟩
    have zw140 := b141.size
    have B142 := B136.trans (b141.mono B136.size)
    clear B136
    replace H111 := Lib.hid ((b141.block _ (Array.getElem?_eq_some_iff.1 H111.out).1).trans H111.out)
    replace H120 := Lib.hid ((b141.block _ (Array.getElem?_eq_some_iff.1 H120.out).1).trans H120.out)
    replace H132 := Lib.hid ((b141.block _ (Array.getElem?_eq_some_iff.1 H132.out).1).trans H132.out)
    replace ix := Ints.below ix b141
    replace i1 := Ints.below i1 b141
    replace i3 := Ints.below i3 b141
    obtain ⟨cc143, cc144⟩ := cells2 H111.out
    have ll145 := (Array.getElem?_eq_some_iff.1 H111.out).1
    go_wp2
    go_ret
    exact ⟨rfl, B142⟩

set_option linter.unusedVariables false in
set_option maxRecDepth 100000 in
theorem FnFifoPutWhen_lifted (os : Os) (started : os.Started) (H : Type) (enc : TypeId × Value → H) :
    ReturnsInHanded {} Try.checked os 4 .any (Rows.fnFifoPutWhenSpec.pre6 enc Try.prog Try.f4 Rows.fnFifoPutWhenRow.domain false) (Rows.fnFifoPutWhenSpec.post enc Try.prog Try.f4 false true false false) := by
  refine returnsInHanded_of_change (C := Try.checked) own_knob started (by kernel_rfl) Try.func4
    (ChangeSpec.witness6 (enc := enc) (C := Try.checked) false ⟨#[], #[.slice none 0 0], []⟩ 8 (by kernel_rfl) (by kernel_rfl) (by kernel_rfl) (by kernel_rfl)) ?_
  intro W base args ds gs before hval0 hW hcnd _
  have hval : ∀ (j : Nat) t v, Try.f4.params[j]? = some t → args[j]? = some v → Value.okWide Try.prog W .any base t v := hval0
  have hW' := hW
  obtain ⟨p, q, hA0, hV, rfl, hfz, hnd⟩ := hW
  have hA : DataW.TrodAll enc Try.prog W 0 (fun _ => true) true Try.f4.params.toList args.toList ds p := hA0
  rw [Try.params4] at hA hval
  obtain ⟨v0, vs0, d0, ds0, p0, q0, hargs, rfl, rfl, h0, r0⟩ := trodAll_cons hA
  obtain ⟨rfl, rfl, rfl⟩ := trodAll_nil r0
  obtain rfl : args = #[v0] := by cases args; simp_all
  obtain ⟨rfl, rfl⟩ := trodVars_none hV
  have k0 := h0
  have lt0 : ∀ x ∈ p0, x.block < W.heap.size := by obtain ⟨m, hm⟩ := k0; exact DataW.trod_lt m _ _ _ hm
  obtain ⟨a0, len0, cap0, rfl⟩ := okWide_slice Try.underlying22 (hval 0 22 v0 rfl rfl)
  obtain ⟨z0, rfl, lc0, lm0, rz0⟩ : ∃ z : List Int, len0 = z.length ∧ z.length ≤ cap0 ∧ cap0 ≤ maxLen ∧ Bytes W a0 z := by
    obtain ⟨fuel, hf⟩ := h0
    obtain ⟨ao, cap, z, e, h1, h2, h3⟩ := rd_bytes hf
    simp [Value.cells] at e
    obtain ⟨rfl, rfl, rfl⟩ := e
    exact ⟨z, rfl, h1, h2, h3⟩
  have lb0 : z0.length ≤ cap0 := lc0
  clear hA0 hval0
  refine (FnFifoPutWhen_walk a0 z0 cap0 W rz0 lc0 lm0).mono fun e W' ⟨he, bel⟩ => ?_
  subst he
  exact ⟨_, rfl, _, _, _, [], _, [], hW', trodAll_mk1 (shut_bool Try.underlying4 _), (trodAll_cons_mk (Below.trod laid_out (by kernel_rfl) (of_decide_eq_true (by kernel_rfl)) k0 bel lt0) trodAll_mk0), rfl, bel.frame _, fun h => by cases h⟩

theorem FnFifoPutWhen_holds : Rows.FnFifoPutWhenSaid :=
  OpenClaim.holds_of_wide 4 Try.f4 rfl rfl rfl rfl rfl rfl rfl ⟨rfl, rfl, rfl, rfl, rfl⟩ rfl rfl rfl rfl rfl (by kernel_rfl) Try.func4 (by kernel_rfl)
    (of_decide_eq_true (by kernel_rfl)) (by unfold Func.isWrapper; first | (rw [if_pos (by decide +kernel)]; kernel_rfl) | (rw [if_neg (by decide +kernel)]; exact ⟨rfl, rfl⟩))
    (fun os started H enc _ => FnFifoPutWhen_lifted os started H enc)
end Go.Proofs.Ytfjdmdjoebjciaa
