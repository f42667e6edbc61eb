/- FnRecvTick: A tick makes the bytes of a receiver older. No conditions beyond the statement's own. -/
import Derived.Test.YtmmdbbnmifpciaaRecvLaw
namespace Go.Proofs.Ytmmdbbnmifpciaa
open Go.ChangeShapes Go.WideShapes Go.ChangeAt Go.RowKit

set_option maxHeartbeats 4000000 in
set_option maxRecDepth 100000 in
theorem FnRecvTick_walk (a0 : Option Addr) (z0 : List Int) (cap0 : Nat) (w : World) (rz0 : Bytes w a0 z0) (lc0 : z0.length ≤ cap0) (_lm0 : cap0 ≤ maxLen) :
    Calls Try.prog 6 #[.slice a0 z0.length cap0] w fun e w' => e = .returned (.bool true) ∧ Below w.heap.size w w' := by
  unfold maxLen at _lm0
  by_cases hn0 : (z0.length : Int) ≤ 1048576
  case neg =>
    have hn0' : (1048576 : Int) < (z0.length : Int) := by omega
    go_enter Try.func6, Try.ntmps6
    go_wp2
    go_ret
    exact ⟨rfl, Below.refl _ _⟩
  go_enter Try.func6, Try.ntmps6
  have B1 : Below w.heap.size w w := Below.refl _ _
  go_wp2_with fail
  refine (drawRecvTick_any a0 z0 cap0 w rz0 lc0 (by omega)).mono ?_
  rintro e w2 ⟨r, t, a, xs, c, l, ag, rfl, lx, ox, b3⟩
  have zw2 := b3.size
  have B4 := B1.trans (b3.mono B1.size)
  clear B1
  have ix : Gts w2 a xs := own_cells ox
  have HC := Lib.hid (own_nilcap ox)
  clear ox
  have HI := Lib.hid (fun v h => implRecvTick_any r t a xs c l ag v h (by omega))
  have HJ := Lib.hid (fun v h => specRecvTick_any r t a xs c l ag v h (by omega) HC.out)
  cases hB : recvB r t xs ag
  · rw [rtickR_no hB] at HI HJ
    go_wp2_with fail
    refine name_calls fun W5 hW5 => ?_
    have zW5 : W5.heap.size = w2.heap.size + 1 := by rw [hW5]; simp
    have H60 := (heap_new_at w2 (.cells #[.int .i64 r, .int .i64 t, .slice a xs.length c, .bool l, .int .i64 ag] 25 (0, 0)) (w2.heap.size) (by simp))
    rw [← hW5] at H60
    have H6 := Lib.hid H60
    clear H60
    have B7 := (below_alloc3 B4 (.cells #[.int .i64 r, .int .i64 t, .slice a xs.length c, .bool l, .int .i64 ag] 25 (0, 0)))
    rw [← hW5] at B7
    clear B4
    replace ix := (Gts.keep ix (Keeps.alloc _ (.cells #[.int .i64 r, .int .i64 t, .slice a xs.length c, .bool l, .int .i64 ag] 25 (0, 0))))
    rw [← hW5] at ix
    clear hW5
    refine (HI.out W5 ix).mono ?_
    rintro e w8 ⟨a1, c1, rfl, o1, b9⟩
    have zw8 := b9.size
    have B10 := B7.trans (b9.mono B7.size)
    clear B7
    replace H6 := Lib.hid ((b9.block _ (Array.getElem?_eq_some_iff.1 H6.out).1).trans H6.out)
    replace ix := Gts.below ix b9
    have i1 : Gts w8 a1 [] := own_cells o1
    have hcap1 := own_cap o1
    clear o1
    obtain ⟨cc11, cc12, cc13, cc14, cc15⟩ := cells5 H6.out
    have ll16 := (Array.getElem?_eq_some_iff.1 H6.out).1
    go_wp2_with fail
    clear cc11 cc12 cc13 cc14 cc15 ll16
    refine name_calls fun W17 hW17 => ?_
    have zW17 : W17.heap.size = w8.heap.size + 1 := by rw [hW17]; simp
    have H180 := (heap_new_at w8 (.cells #[.int .i64 0, .int .i64 0, .slice a1 0 c1, .bool false, .int .i64 0] 25 (0, 0)) (w8.heap.size) (by simp))
    rw [← hW17] at H180
    have H18 := Lib.hid H180
    clear H180
    have B19 := (below_alloc3 B10 (.cells #[.int .i64 0, .int .i64 0, .slice a1 0 c1, .bool false, .int .i64 0] 25 (0, 0)))
    rw [← hW17] at B19
    clear B10
    have H60 := (box_alloc H6.out (.cells #[.int .i64 0, .int .i64 0, .slice a1 0 c1, .bool false, .int .i64 0] 25 (0, 0)))
    rw [← hW17] at H60
    clear H6
    have H6 := Lib.hid H60
    clear H60
    replace ix := (Gts.keep ix (Keeps.alloc _ (.cells #[.int .i64 0, .int .i64 0, .slice a1 0 c1, .bool false, .int .i64 0] 25 (0, 0))))
    rw [← hW17] at ix
    replace i1 := (Gts.keep i1 (Keeps.alloc _ (.cells #[.int .i64 0, .int .i64 0, .slice a1 0 c1, .bool false, .int .i64 0] 25 (0, 0))))
    rw [← hW17] at i1
    clear hW17
    refine (HJ.out W17 ix).mono ?_
    rintro e w20 ⟨a3, c3, rfl, o3, b21⟩
    have zw20 := b21.size
    have B22 := B19.trans (b21.mono B19.size)
    clear B19
    replace H6 := Lib.hid ((b21.block _ (Array.getElem?_eq_some_iff.1 H6.out).1).trans H6.out)
    replace H18 := Lib.hid ((b21.block _ (Array.getElem?_eq_some_iff.1 H18.out).1).trans H18.out)
    replace ix := Gts.below ix b21
    replace i1 := Gts.below i1 b21
    have i3 : Gts w20 a3 [] := own_cells o3
    clear o3
    obtain ⟨cc23, cc24, cc25, cc26, cc27⟩ := cells5 H18.out
    have ll28 := (Array.getElem?_eq_some_iff.1 H18.out).1
    obtain ⟨cc29, cc30, cc31, cc32, cc33⟩ := cells5 H6.out
    have ll34 := (Array.getElem?_eq_some_iff.1 H6.out).1
    go_wp2_with fail
    clear cc23 cc24 cc25 cc26 cc27 ll28 cc29 cc30 cc31 cc32 cc33 ll34
    refine name_calls fun W35 hW35 => ?_
    have zW35 : W35.heap.size = w20.heap.size + 1 := by rw [hW35]; simp
    have H360 := (heap_new_at w20 (.cells #[.int .i64 0, .int .i64 0, .slice a3 0 c3, .bool false, .int .i64 0] 25 (0, 0)) (w20.heap.size) (by simp))
    rw [← hW35] at H360
    have H36 := Lib.hid H360
    clear H360
    have B37 := (below_alloc3 B22 (.cells #[.int .i64 0, .int .i64 0, .slice a3 0 c3, .bool false, .int .i64 0] 25 (0, 0)))
    rw [← hW35] at B37
    clear B22
    have H60 := (box_alloc H6.out (.cells #[.int .i64 0, .int .i64 0, .slice a3 0 c3, .bool false, .int .i64 0] 25 (0, 0)))
    rw [← hW35] at H60
    clear H6
    have H6 := Lib.hid H60
    clear H60
    have H180 := (box_alloc H18.out (.cells #[.int .i64 0, .int .i64 0, .slice a3 0 c3, .bool false, .int .i64 0] 25 (0, 0)))
    rw [← hW35] at H180
    clear H18
    have H18 := Lib.hid H180
    clear H180
    replace ix := (Gts.keep ix (Keeps.alloc _ (.cells #[.int .i64 0, .int .i64 0, .slice a3 0 c3, .bool false, .int .i64 0] 25 (0, 0))))
    rw [← hW35] at ix
    replace i1 := (Gts.keep i1 (Keeps.alloc _ (.cells #[.int .i64 0, .int .i64 0, .slice a3 0 c3, .bool false, .int .i64 0] 25 (0, 0))))
    rw [← hW35] at i1
    replace i3 := (Gts.keep i3 (Keeps.alloc _ (.cells #[.int .i64 0, .int .i64 0, .slice a3 0 c3, .bool false, .int .i64 0] 25 (0, 0))))
    rw [← hW35] at i3
    clear hW35
    refine (sameRecv_any 0 0 false 0 0 0 false 0 a1 a3 [] [] c1 c3 W35 i1 i3 (by simp) (by simp)).mono ?_
    rintro e w38 ⟨rfl, b39⟩
    have zw38 := b39.size
    have B40 := B37.trans (b39.mono B37.size)
    clear B37
    replace H6 := Lib.hid ((b39.block _ (Array.getElem?_eq_some_iff.1 H6.out).1).trans H6.out)
    replace H18 := Lib.hid ((b39.block _ (Array.getElem?_eq_some_iff.1 H18.out).1).trans H18.out)
    replace H36 := Lib.hid ((b39.block _ (Array.getElem?_eq_some_iff.1 H36.out).1).trans H36.out)
    replace ix := Gts.below ix b39
    replace i1 := Gts.below i1 b39
    replace i3 := Gts.below i3 b39
    obtain ⟨cc41, cc42, cc43, cc44, cc45⟩ := cells5 H18.out
    have ll46 := (Array.getElem?_eq_some_iff.1 H18.out).1
    obtain ⟨cc47, cc48, cc49, cc50, cc51⟩ := cells5 H36.out
    have ll52 := (Array.getElem?_eq_some_iff.1 H36.out).1
    obtain ⟨cc53, cc54, cc55, cc56, cc57⟩ := cells5 H6.out
    have ll58 := (Array.getElem?_eq_some_iff.1 H6.out).1
    go_wp2_with fail
    clear cc41 cc42 cc43 cc44 cc45 ll46 cc47 cc48 cc49 cc50 cc51 ll52 cc53 cc54 cc55 cc56 cc57 ll58
    refine (sameRecv_any 0 0 false 0 0 0 false 0 a1 a3 [] [] c1 c3 w38 i1 i3 (by simp) (by simp)).mono ?_
    rintro e w59 ⟨rfl, b60⟩
    have zw59 := b60.size
    have B61 := B40.trans (b60.mono B40.size)
    clear B40
    replace H6 := Lib.hid ((b60.block _ (Array.getElem?_eq_some_iff.1 H6.out).1).trans H6.out)
    replace H18 := Lib.hid ((b60.block _ (Array.getElem?_eq_some_iff.1 H18.out).1).trans H18.out)
    replace H36 := Lib.hid ((b60.block _ (Array.getElem?_eq_some_iff.1 H36.out).1).trans H36.out)
    replace ix := Gts.below ix b60
    replace i1 := Gts.below i1 b60
    replace i3 := Gts.below i3 b60
    go_wp2
    go_ret
    exact ⟨rfl, B61⟩
  · have hff := recvB_facts hB
    have ha0 := hff.2.2.2.1.1
    have ha9 := hff.2.2.2.1.2
    clear hff
    have hT := recvB_tick hB
    have hR := rtickR_yes (l := l) hB
    by_cases h9 : ag + 1 ≤ 99
    · by_cases h0 : xs.length = 0
      · have hA := ageN_0 (a := ag) h0
        rw [hA] at hR hT
        rw [hR] at HI HJ
        have HF := Lib.hid (fun v a1 c1 (h : Gts v a1 xs) => implRecvValid_any r t a1 xs c1 l (0) v h (by omega))
        rw [hT] at HF
        have hzb : ((xs.length : Int) == 0) = true := beq_iff_eq.2 (by omega)
        clear h0 hA hR hT hB
        go_wp2_with fail
        refine name_calls fun W62 hW62 => ?_
        have zW62 : W62.heap.size = w2.heap.size + 1 := by rw [hW62]; simp
        have H630 := (heap_new_at w2 (.cells #[.int .i64 r, .int .i64 t, .slice a xs.length c, .bool l, .int .i64 ag] 25 (0, 0)) (w2.heap.size) (by simp))
        rw [← hW62] at H630
        have H63 := Lib.hid H630
        clear H630
        have B64 := (below_alloc3 B4 (.cells #[.int .i64 r, .int .i64 t, .slice a xs.length c, .bool l, .int .i64 ag] 25 (0, 0)))
        rw [← hW62] at B64
        clear B4
        replace ix := (Gts.keep ix (Keeps.alloc _ (.cells #[.int .i64 r, .int .i64 t, .slice a xs.length c, .bool l, .int .i64 ag] 25 (0, 0))))
        rw [← hW62] at ix
        clear hW62
        refine (HI.out W62 ix).mono ?_
        rintro e w65 ⟨a1, c1, rfl, o1, b66⟩
        have zw65 := b66.size
        have B67 := B64.trans (b66.mono B64.size)
        clear B64
        replace H63 := Lib.hid ((b66.block _ (Array.getElem?_eq_some_iff.1 H63.out).1).trans H63.out)
        replace ix := Gts.below ix b66
        have i1 : Gts w65 a1 xs := own_cells o1
        have hcap1 := own_cap o1
        clear o1
        obtain ⟨cc68, cc69, cc70, cc71, cc72⟩ := cells5 H63.out
        have ll73 := (Array.getElem?_eq_some_iff.1 H63.out).1
        go_wp2_with fail
        clear cc68 cc69 cc70 cc71 cc72 ll73
        refine name_calls fun W74 hW74 => ?_
        have zW74 : W74.heap.size = w65.heap.size + 1 := by rw [hW74]; simp
        have H750 := (heap_new_at w65 (.cells #[.int .i64 r, .int .i64 t, .slice a1 xs.length c1, .bool l, .int .i64 0] 25 (0, 0)) (w65.heap.size) (by simp))
        rw [← hW74] at H750
        have H75 := Lib.hid H750
        clear H750
        have B76 := (below_alloc3 B67 (.cells #[.int .i64 r, .int .i64 t, .slice a1 xs.length c1, .bool l, .int .i64 0] 25 (0, 0)))
        rw [← hW74] at B76
        clear B67
        have H630 := (box_alloc H63.out (.cells #[.int .i64 r, .int .i64 t, .slice a1 xs.length c1, .bool l, .int .i64 0] 25 (0, 0)))
        rw [← hW74] at H630
        clear H63
        have H63 := Lib.hid H630
        clear H630
        replace ix := (Gts.keep ix (Keeps.alloc _ (.cells #[.int .i64 r, .int .i64 t, .slice a1 xs.length c1, .bool l, .int .i64 0] 25 (0, 0))))
        rw [← hW74] at ix
        replace i1 := (Gts.keep i1 (Keeps.alloc _ (.cells #[.int .i64 r, .int .i64 t, .slice a1 xs.length c1, .bool l, .int .i64 0] 25 (0, 0))))
        rw [← hW74] at i1
        clear hW74
        refine (HJ.out W74 ix).mono ?_
        rintro e w77 ⟨a3, c3, rfl, o3, b78⟩
        have zw77 := b78.size
        have B79 := B76.trans (b78.mono B76.size)
        clear B76
        replace H63 := Lib.hid ((b78.block _ (Array.getElem?_eq_some_iff.1 H63.out).1).trans H63.out)
        replace H75 := Lib.hid ((b78.block _ (Array.getElem?_eq_some_iff.1 H75.out).1).trans H75.out)
        replace ix := Gts.below ix b78
        replace i1 := Gts.below i1 b78
        have i3 : Gts w77 a3 xs := own_cells o3
        clear o3
        obtain ⟨cc80, cc81, cc82, cc83, cc84⟩ := cells5 H75.out
        have ll85 := (Array.getElem?_eq_some_iff.1 H75.out).1
        obtain ⟨cc86, cc87, cc88, cc89, cc90⟩ := cells5 H63.out
        have ll91 := (Array.getElem?_eq_some_iff.1 H63.out).1
        go_wp2_with fail
        clear cc80 cc81 cc82 cc83 cc84 ll85 cc86 cc87 cc88 cc89 cc90 ll91
        refine name_calls fun W92 hW92 => ?_
        have zW92 : W92.heap.size = w77.heap.size + 1 := by rw [hW92]; simp
        have H930 := (heap_new_at w77 (.cells #[.int .i64 r, .int .i64 t, .slice a3 xs.length c3, .bool l, .int .i64 0] 25 (0, 0)) (w77.heap.size) (by simp))
        rw [← hW92] at H930
        have H93 := Lib.hid H930
        clear H930
        have B94 := (below_alloc3 B79 (.cells #[.int .i64 r, .int .i64 t, .slice a3 xs.length c3, .bool l, .int .i64 0] 25 (0, 0)))
        rw [← hW92] at B94
        clear B79
        have H630 := (box_alloc H63.out (.cells #[.int .i64 r, .int .i64 t, .slice a3 xs.length c3, .bool l, .int .i64 0] 25 (0, 0)))
        rw [← hW92] at H630
        clear H63
        have H63 := Lib.hid H630
        clear H630
        have H750 := (box_alloc H75.out (.cells #[.int .i64 r, .int .i64 t, .slice a3 xs.length c3, .bool l, .int .i64 0] 25 (0, 0)))
        rw [← hW92] at H750
        clear H75
        have H75 := Lib.hid H750
        clear H750
        replace ix := (Gts.keep ix (Keeps.alloc _ (.cells #[.int .i64 r, .int .i64 t, .slice a3 xs.length c3, .bool l, .int .i64 0] 25 (0, 0))))
        rw [← hW92] at ix
        replace i1 := (Gts.keep i1 (Keeps.alloc _ (.cells #[.int .i64 r, .int .i64 t, .slice a3 xs.length c3, .bool l, .int .i64 0] 25 (0, 0))))
        rw [← hW92] at i1
        replace i3 := (Gts.keep i3 (Keeps.alloc _ (.cells #[.int .i64 r, .int .i64 t, .slice a3 xs.length c3, .bool l, .int .i64 0] 25 (0, 0))))
        rw [← hW92] at i3
        clear hW92
        refine (sameRecv_any r t l 0 r t l 0 a1 a3 xs xs c1 c3 W92 i1 i3 (by omega) (by omega)).mono ?_
        rintro e w95 ⟨rfl, b96⟩
        have zw95 := b96.size
        have B97 := B94.trans (b96.mono B94.size)
        clear B94
        replace H63 := Lib.hid ((b96.block _ (Array.getElem?_eq_some_iff.1 H63.out).1).trans H63.out)
        replace H75 := Lib.hid ((b96.block _ (Array.getElem?_eq_some_iff.1 H75.out).1).trans H75.out)
        replace H93 := Lib.hid ((b96.block _ (Array.getElem?_eq_some_iff.1 H93.out).1).trans H93.out)
        replace ix := Gts.below ix b96
        replace i1 := Gts.below i1 b96
        replace i3 := Gts.below i3 b96
        obtain ⟨cc98, cc99, cc100, cc101, cc102⟩ := cells5 H75.out
        have ll103 := (Array.getElem?_eq_some_iff.1 H75.out).1
        obtain ⟨cc104, cc105, cc106, cc107, cc108⟩ := cells5 H63.out
        have ll109 := (Array.getElem?_eq_some_iff.1 H63.out).1
        go_wp2_with fail
        clear cc98 cc99 cc100 cc101 cc102 ll103 cc104 cc105 cc106 cc107 cc108 ll109
        refine (HF.out w95 a1 c1 i1).mono ?_
        rintro e w110 ⟨rfl, b111⟩
        have zw110 := b111.size
        have B112 := B97.trans (b111.mono B97.size)
        clear B97
        replace H63 := Lib.hid ((b111.block _ (Array.getElem?_eq_some_iff.1 H63.out).1).trans H63.out)
        replace H75 := Lib.hid ((b111.block _ (Array.getElem?_eq_some_iff.1 H75.out).1).trans H75.out)
        replace H93 := Lib.hid ((b111.block _ (Array.getElem?_eq_some_iff.1 H93.out).1).trans H93.out)
        replace ix := Gts.below ix b111
        replace i1 := Gts.below i1 b111
        replace i3 := Gts.below i3 b111
        obtain ⟨cc113, cc114, cc115, cc116, cc117⟩ := cells5 H75.out
        have ll118 := (Array.getElem?_eq_some_iff.1 H75.out).1
        obtain ⟨cc119, cc120, cc121, cc122, cc123⟩ := cells5 H63.out
        have ll124 := (Array.getElem?_eq_some_iff.1 H63.out).1
        go_wp2_with fail
        clear cc113 cc114 cc115 cc116 cc117 ll118 cc119 cc120 cc121 cc122 cc123 ll124
        refine (sameGot_below a1 a xs xs c1 c w110 i1 ix (by omega) (by omega)).mono ?_
        rintro e w125 ⟨rfl, b126⟩
        have zw125 := b126.size
        have B127 := B112.trans (b126.mono B112.size)
        clear B112
        replace H63 := Lib.hid ((b126.block _ (Array.getElem?_eq_some_iff.1 H63.out).1).trans H63.out)
        replace H75 := Lib.hid ((b126.block _ (Array.getElem?_eq_some_iff.1 H75.out).1).trans H75.out)
        replace H93 := Lib.hid ((b126.block _ (Array.getElem?_eq_some_iff.1 H93.out).1).trans H93.out)
        replace ix := Gts.below ix b126
        replace i1 := Gts.below i1 b126
        replace i3 := Gts.below i3 b126
        obtain ⟨cc128, cc129, cc130, cc131, cc132⟩ := cells5 H75.out
        have ll133 := (Array.getElem?_eq_some_iff.1 H75.out).1
        obtain ⟨cc134, cc135, cc136, cc137, cc138⟩ := cells5 H63.out
        have ll139 := (Array.getElem?_eq_some_iff.1 H63.out).1
        go_wp2
        go_ret
        exact ⟨rfl, B127⟩
      · have hA := ageN_1 (a := ag) h0 h9
        rw [hA] at hR hT
        rw [hR] at HI HJ
        have HF := Lib.hid (fun v a1 c1 (h : Gts v a1 xs) => implRecvValid_any r t a1 xs c1 l (ag + 1) v h (by omega))
        rw [hT] at HF
        have hzb : ((xs.length : Int) == 0) = false := beq_eq_false_iff_ne.2 (by omega)
        clear h0 hA hR hT hB
        go_wp2_with fail
        refine name_calls fun W140 hW140 => ?_
        have zW140 : W140.heap.size = w2.heap.size + 1 := by rw [hW140]; simp
        have H1410 := (heap_new_at w2 (.cells #[.int .i64 r, .int .i64 t, .slice a xs.length c, .bool l, .int .i64 ag] 25 (0, 0)) (w2.heap.size) (by simp))
        rw [← hW140] at H1410
        have H141 := Lib.hid H1410
        clear H1410
        have B142 := (below_alloc3 B4 (.cells #[.int .i64 r, .int .i64 t, .slice a xs.length c, .bool l, .int .i64 ag] 25 (0, 0)))
        rw [← hW140] at B142
        clear B4
        replace ix := (Gts.keep ix (Keeps.alloc _ (.cells #[.int .i64 r, .int .i64 t, .slice a xs.length c, .bool l, .int .i64 ag] 25 (0, 0))))
        rw [← hW140] at ix
        clear hW140
        refine (HI.out W140 ix).mono ?_
        rintro e w143 ⟨a1, c1, rfl, o1, b144⟩
        have zw143 := b144.size
        have B145 := B142.trans (b144.mono B142.size)
        clear B142
        replace H141 := Lib.hid ((b144.block _ (Array.getElem?_eq_some_iff.1 H141.out).1).trans H141.out)
        replace ix := Gts.below ix b144
        have i1 : Gts w143 a1 xs := own_cells o1
        have hcap1 := own_cap o1
        clear o1
        obtain ⟨cc146, cc147, cc148, cc149, cc150⟩ := cells5 H141.out
        have ll151 := (Array.getElem?_eq_some_iff.1 H141.out).1
        go_wp2_with fail
        clear cc146 cc147 cc148 cc149 cc150 ll151
        refine name_calls fun W152 hW152 => ?_
        have zW152 : W152.heap.size = w143.heap.size + 1 := by rw [hW152]; simp
        have H1530 := (heap_new_at w143 (.cells #[.int .i64 r, .int .i64 t, .slice a1 xs.length c1, .bool l, .int .i64 (ag + 1)] 25 (0, 0)) (w143.heap.size) (by simp))
        rw [← hW152] at H1530
        have H153 := Lib.hid H1530
        clear H1530
        have B154 := (below_alloc3 B145 (.cells #[.int .i64 r, .int .i64 t, .slice a1 xs.length c1, .bool l, .int .i64 (ag + 1)] 25 (0, 0)))
        rw [← hW152] at B154
        clear B145
        have H1410 := (box_alloc H141.out (.cells #[.int .i64 r, .int .i64 t, .slice a1 xs.length c1, .bool l, .int .i64 (ag + 1)] 25 (0, 0)))
        rw [← hW152] at H1410
        clear H141
        have H141 := Lib.hid H1410
        clear H1410
        replace ix := (Gts.keep ix (Keeps.alloc _ (.cells #[.int .i64 r, .int .i64 t, .slice a1 xs.length c1, .bool l, .int .i64 (ag + 1)] 25 (0, 0))))
        rw [← hW152] at ix
        replace i1 := (Gts.keep i1 (Keeps.alloc _ (.cells #[.int .i64 r, .int .i64 t, .slice a1 xs.length c1, .bool l, .int .i64 (ag + 1)] 25 (0, 0))))
        rw [← hW152] at i1
        clear hW152
        refine (HJ.out W152 ix).mono ?_
        rintro e w155 ⟨a3, c3, rfl, o3, b156⟩
        have zw155 := b156.size
        have B157 := B154.trans (b156.mono B154.size)
        clear B154
        replace H141 := Lib.hid ((b156.block _ (Array.getElem?_eq_some_iff.1 H141.out).1).trans H141.out)
        replace H153 := Lib.hid ((b156.block _ (Array.getElem?_eq_some_iff.1 H153.out).1).trans H153.out)
        replace ix := Gts.below ix b156
        replace i1 := Gts.below i1 b156
        have i3 : Gts w155 a3 xs := own_cells o3
        clear o3
        obtain ⟨cc158, cc159, cc160, cc161, cc162⟩ := cells5 H153.out
        have ll163 := (Array.getElem?_eq_some_iff.1 H153.out).1
        obtain ⟨cc164, cc165, cc166, cc167, cc168⟩ := cells5 H141.out
        have ll169 := (Array.getElem?_eq_some_iff.1 H141.out).1
        go_wp2_with fail
        clear cc158 cc159 cc160 cc161 cc162 ll163 cc164 cc165 cc166 cc167 cc168 ll169
        refine name_calls fun W170 hW170 => ?_
        have zW170 : W170.heap.size = w155.heap.size + 1 := by rw [hW170]; simp
        have H1710 := (heap_new_at w155 (.cells #[.int .i64 r, .int .i64 t, .slice a3 xs.length c3, .bool l, .int .i64 (ag + 1)] 25 (0, 0)) (w155.heap.size) (by simp))
        rw [← hW170] at H1710
        have H171 := Lib.hid H1710
        clear H1710
        have B172 := (below_alloc3 B157 (.cells #[.int .i64 r, .int .i64 t, .slice a3 xs.length c3, .bool l, .int .i64 (ag + 1)] 25 (0, 0)))
        rw [← hW170] at B172
        clear B157
        have H1410 := (box_alloc H141.out (.cells #[.int .i64 r, .int .i64 t, .slice a3 xs.length c3, .bool l, .int .i64 (ag + 1)] 25 (0, 0)))
        rw [← hW170] at H1410
        clear H141
        have H141 := Lib.hid H1410
        clear H1410
        have H1530 := (box_alloc H153.out (.cells #[.int .i64 r, .int .i64 t, .slice a3 xs.length c3, .bool l, .int .i64 (ag + 1)] 25 (0, 0)))
        rw [← hW170] at H1530
        clear H153
        have H153 := Lib.hid H1530
        clear H1530
        replace ix := (Gts.keep ix (Keeps.alloc _ (.cells #[.int .i64 r, .int .i64 t, .slice a3 xs.length c3, .bool l, .int .i64 (ag + 1)] 25 (0, 0))))
        rw [← hW170] at ix
        replace i1 := (Gts.keep i1 (Keeps.alloc _ (.cells #[.int .i64 r, .int .i64 t, .slice a3 xs.length c3, .bool l, .int .i64 (ag + 1)] 25 (0, 0))))
        rw [← hW170] at i1
        replace i3 := (Gts.keep i3 (Keeps.alloc _ (.cells #[.int .i64 r, .int .i64 t, .slice a3 xs.length c3, .bool l, .int .i64 (ag + 1)] 25 (0, 0))))
        rw [← hW170] at i3
        clear hW170
        refine (sameRecv_any r t l (ag + 1) r t l (ag + 1) a1 a3 xs xs c1 c3 W170 i1 i3 (by omega) (by omega)).mono ?_
        rintro e w173 ⟨rfl, b174⟩
        have zw173 := b174.size
        have B175 := B172.trans (b174.mono B172.size)
        clear B172
        replace H141 := Lib.hid ((b174.block _ (Array.getElem?_eq_some_iff.1 H141.out).1).trans H141.out)
        replace H153 := Lib.hid ((b174.block _ (Array.getElem?_eq_some_iff.1 H153.out).1).trans H153.out)
        replace H171 := Lib.hid ((b174.block _ (Array.getElem?_eq_some_iff.1 H171.out).1).trans H171.out)
        replace ix := Gts.below ix b174
        replace i1 := Gts.below i1 b174
        replace i3 := Gts.below i3 b174
        obtain ⟨cc176, cc177, cc178, cc179, cc180⟩ := cells5 H153.out
        have ll181 := (Array.getElem?_eq_some_iff.1 H153.out).1
        obtain ⟨cc182, cc183, cc184, cc185, cc186⟩ := cells5 H141.out
        have ll187 := (Array.getElem?_eq_some_iff.1 H141.out).1
        go_wp2_with fail
        clear cc176 cc177 cc178 cc179 cc180 ll181 cc182 cc183 cc184 cc185 cc186 ll187
        refine (HF.out w173 a1 c1 i1).mono ?_
        rintro e w188 ⟨rfl, b189⟩
        have zw188 := b189.size
        have B190 := B175.trans (b189.mono B175.size)
        clear B175
        replace H141 := Lib.hid ((b189.block _ (Array.getElem?_eq_some_iff.1 H141.out).1).trans H141.out)
        replace H153 := Lib.hid ((b189.block _ (Array.getElem?_eq_some_iff.1 H153.out).1).trans H153.out)
        replace H171 := Lib.hid ((b189.block _ (Array.getElem?_eq_some_iff.1 H171.out).1).trans H171.out)
        replace ix := Gts.below ix b189
        replace i1 := Gts.below i1 b189
        replace i3 := Gts.below i3 b189
        obtain ⟨cc191, cc192, cc193, cc194, cc195⟩ := cells5 H153.out
        have ll196 := (Array.getElem?_eq_some_iff.1 H153.out).1
        obtain ⟨cc197, cc198, cc199, cc200, cc201⟩ := cells5 H141.out
        have ll202 := (Array.getElem?_eq_some_iff.1 H141.out).1
        go_wp2_with fail
        clear cc191 cc192 cc193 cc194 cc195 ll196 cc197 cc198 cc199 cc200 cc201 ll202
        refine (sameGot_below a1 a xs xs c1 c w188 i1 ix (by omega) (by omega)).mono ?_
        rintro e w203 ⟨rfl, b204⟩
        have zw203 := b204.size
        have B205 := B190.trans (b204.mono B190.size)
        clear B190
        replace H141 := Lib.hid ((b204.block _ (Array.getElem?_eq_some_iff.1 H141.out).1).trans H141.out)
        replace H153 := Lib.hid ((b204.block _ (Array.getElem?_eq_some_iff.1 H153.out).1).trans H153.out)
        replace H171 := Lib.hid ((b204.block _ (Array.getElem?_eq_some_iff.1 H171.out).1).trans H171.out)
        replace ix := Gts.below ix b204
        replace i1 := Gts.below i1 b204
        replace i3 := Gts.below i3 b204
        obtain ⟨cc206, cc207, cc208, cc209, cc210⟩ := cells5 H153.out
        have ll211 := (Array.getElem?_eq_some_iff.1 H153.out).1
        obtain ⟨cc212, cc213, cc214, cc215, cc216⟩ := cells5 H141.out
        have ll217 := (Array.getElem?_eq_some_iff.1 H141.out).1
        go_wp2
        go_ret
        exact ⟨rfl, B205⟩
    · by_cases h0 : xs.length = 0
      · have hA := ageN_0 (a := ag) h0
        rw [hA] at hR hT
        rw [hR] at HI HJ
        have HF := Lib.hid (fun v a1 c1 (h : Gts v a1 xs) => implRecvValid_any r t a1 xs c1 l (0) v h (by omega))
        rw [hT] at HF
        have hzb : ((xs.length : Int) == 0) = true := beq_iff_eq.2 (by omega)
        have h9' : 99 < ag + 1 := by omega
        clear h9
        clear h0 hA hR hT hB
        go_wp2_with fail
        refine name_calls fun W218 hW218 => ?_
        have zW218 : W218.heap.size = w2.heap.size + 1 := by rw [hW218]; simp
        have H2190 := (heap_new_at w2 (.cells #[.int .i64 r, .int .i64 t, .slice a xs.length c, .bool l, .int .i64 ag] 25 (0, 0)) (w2.heap.size) (by simp))
        rw [← hW218] at H2190
        have H219 := Lib.hid H2190
        clear H2190
        have B220 := (below_alloc3 B4 (.cells #[.int .i64 r, .int .i64 t, .slice a xs.length c, .bool l, .int .i64 ag] 25 (0, 0)))
        rw [← hW218] at B220
        clear B4
        replace ix := (Gts.keep ix (Keeps.alloc _ (.cells #[.int .i64 r, .int .i64 t, .slice a xs.length c, .bool l, .int .i64 ag] 25 (0, 0))))
        rw [← hW218] at ix
        clear hW218
        refine (HI.out W218 ix).mono ?_
        rintro e w221 ⟨a1, c1, rfl, o1, b222⟩
        have zw221 := b222.size
        have B223 := B220.trans (b222.mono B220.size)
        clear B220
        replace H219 := Lib.hid ((b222.block _ (Array.getElem?_eq_some_iff.1 H219.out).1).trans H219.out)
        replace ix := Gts.below ix b222
        have i1 : Gts w221 a1 xs := own_cells o1
        have hcap1 := own_cap o1
        clear o1
        obtain ⟨cc224, cc225, cc226, cc227, cc228⟩ := cells5 H219.out
        have ll229 := (Array.getElem?_eq_some_iff.1 H219.out).1
        go_wp2_with fail
        clear cc224 cc225 cc226 cc227 cc228 ll229
        refine name_calls fun W230 hW230 => ?_
        have zW230 : W230.heap.size = w221.heap.size + 1 := by rw [hW230]; simp
        have H2310 := (heap_new_at w221 (.cells #[.int .i64 r, .int .i64 t, .slice a1 xs.length c1, .bool l, .int .i64 0] 25 (0, 0)) (w221.heap.size) (by simp))
        rw [← hW230] at H2310
        have H231 := Lib.hid H2310
        clear H2310
        have B232 := (below_alloc3 B223 (.cells #[.int .i64 r, .int .i64 t, .slice a1 xs.length c1, .bool l, .int .i64 0] 25 (0, 0)))
        rw [← hW230] at B232
        clear B223
        have H2190 := (box_alloc H219.out (.cells #[.int .i64 r, .int .i64 t, .slice a1 xs.length c1, .bool l, .int .i64 0] 25 (0, 0)))
        rw [← hW230] at H2190
        clear H219
        have H219 := Lib.hid H2190
        clear H2190
        replace ix := (Gts.keep ix (Keeps.alloc _ (.cells #[.int .i64 r, .int .i64 t, .slice a1 xs.length c1, .bool l, .int .i64 0] 25 (0, 0))))
        rw [← hW230] at ix
        replace i1 := (Gts.keep i1 (Keeps.alloc _ (.cells #[.int .i64 r, .int .i64 t, .slice a1 xs.length c1, .bool l, .int .i64 0] 25 (0, 0))))
        rw [← hW230] at i1
        clear hW230
        refine (HJ.out W230 ix).mono ?_
        rintro e w233 ⟨a3, c3, rfl, o3, b234⟩
        have zw233 := b234.size
        have B235 := B232.trans (b234.mono B232.size)
        clear B232
        replace H219 := Lib.hid ((b234.block _ (Array.getElem?_eq_some_iff.1 H219.out).1).trans H219.out)
        replace H231 := Lib.hid ((b234.block _ (Array.getElem?_eq_some_iff.1 H231.out).1).trans H231.out)
        replace ix := Gts.below ix b234
        replace i1 := Gts.below i1 b234
        have i3 : Gts w233 a3 xs := own_cells o3
        clear o3
        obtain ⟨cc236, cc237, cc238, cc239, cc240⟩ := cells5 H231.out
        have ll241 := (Array.getElem?_eq_some_iff.1 H231.out).1
        obtain ⟨cc242, cc243, cc244, cc245, cc246⟩ := cells5 H219.out
        have ll247 := (Array.getElem?_eq_some_iff.1 H219.out).1
        go_wp2_with fail
        clear cc236 cc237 cc238 cc239 cc240 ll241 cc242 cc243 cc244 cc245 cc246 ll247
        refine name_calls fun W248 hW248 => ?_
        have zW248 : W248.heap.size = w233.heap.size + 1 := by rw [hW248]; simp
        have H2490 := (heap_new_at w233 (.cells #[.int .i64 r, .int .i64 t, .slice a3 xs.length c3, .bool l, .int .i64 0] 25 (0, 0)) (w233.heap.size) (by simp))
        rw [← hW248] at H2490
        have H249 := Lib.hid H2490
        clear H2490
        have B250 := (below_alloc3 B235 (.cells #[.int .i64 r, .int .i64 t, .slice a3 xs.length c3, .bool l, .int .i64 0] 25 (0, 0)))
        rw [← hW248] at B250
        clear B235
        have H2190 := (box_alloc H219.out (.cells #[.int .i64 r, .int .i64 t, .slice a3 xs.length c3, .bool l, .int .i64 0] 25 (0, 0)))
        rw [← hW248] at H2190
        clear H219
        have H219 := Lib.hid H2190
        clear H2190
        have H2310 := (box_alloc H231.out (.cells #[.int .i64 r, .int .i64 t, .slice a3 xs.length c3, .bool l, .int .i64 0] 25 (0, 0)))
        rw [← hW248] at H2310
        clear H231
        have H231 := Lib.hid H2310
        clear H2310
        replace ix := (Gts.keep ix (Keeps.alloc _ (.cells #[.int .i64 r, .int .i64 t, .slice a3 xs.length c3, .bool l, .int .i64 0] 25 (0, 0))))
        rw [← hW248] at ix
        replace i1 := (Gts.keep i1 (Keeps.alloc _ (.cells #[.int .i64 r, .int .i64 t, .slice a3 xs.length c3, .bool l, .int .i64 0] 25 (0, 0))))
        rw [← hW248] at i1
        replace i3 := (Gts.keep i3 (Keeps.alloc _ (.cells #[.int .i64 r, .int .i64 t, .slice a3 xs.length c3, .bool l, .int .i64 0] 25 (0, 0))))
        rw [← hW248] at i3
        clear hW248
        refine (sameRecv_any r t l 0 r t l 0 a1 a3 xs xs c1 c3 W248 i1 i3 (by omega) (by omega)).mono ?_
        rintro e w251 ⟨rfl, b252⟩
        have zw251 := b252.size
        have B253 := B250.trans (b252.mono B250.size)
        clear B250
        replace H219 := Lib.hid ((b252.block _ (Array.getElem?_eq_some_iff.1 H219.out).1).trans H219.out)
        replace H231 := Lib.hid ((b252.block _ (Array.getElem?_eq_some_iff.1 H231.out).1).trans H231.out)
        replace H249 := Lib.hid ((b252.block _ (Array.getElem?_eq_some_iff.1 H249.out).1).trans H249.out)
        replace ix := Gts.below ix b252
        replace i1 := Gts.below i1 b252
        replace i3 := Gts.below i3 b252
        obtain ⟨cc254, cc255, cc256, cc257, cc258⟩ := cells5 H231.out
        have ll259 := (Array.getElem?_eq_some_iff.1 H231.out).1
        obtain ⟨cc260, cc261, cc262, cc263, cc264⟩ := cells5 H219.out
        have ll265 := (Array.getElem?_eq_some_iff.1 H219.out).1
        go_wp2_with fail
        clear cc254 cc255 cc256 cc257 cc258 ll259 cc260 cc261 cc262 cc263 cc264 ll265
        refine (HF.out w251 a1 c1 i1).mono ?_
        rintro e w266 ⟨rfl, b267⟩
        have zw266 := b267.size
        have B268 := B253.trans (b267.mono B253.size)
        clear B253
        replace H219 := Lib.hid ((b267.block _ (Array.getElem?_eq_some_iff.1 H219.out).1).trans H219.out)
        replace H231 := Lib.hid ((b267.block _ (Array.getElem?_eq_some_iff.1 H231.out).1).trans H231.out)
        replace H249 := Lib.hid ((b267.block _ (Array.getElem?_eq_some_iff.1 H249.out).1).trans H249.out)
        replace ix := Gts.below ix b267
        replace i1 := Gts.below i1 b267
        replace i3 := Gts.below i3 b267
        obtain ⟨cc269, cc270, cc271, cc272, cc273⟩ := cells5 H231.out
        have ll274 := (Array.getElem?_eq_some_iff.1 H231.out).1
        obtain ⟨cc275, cc276, cc277, cc278, cc279⟩ := cells5 H219.out
        have ll280 := (Array.getElem?_eq_some_iff.1 H219.out).1
        go_wp2_with fail
        clear cc269 cc270 cc271 cc272 cc273 ll274 cc275 cc276 cc277 cc278 cc279 ll280
        refine (sameGot_below a1 a xs xs c1 c w266 i1 ix (by omega) (by omega)).mono ?_
        rintro e w281 ⟨rfl, b282⟩
        have zw281 := b282.size
        have B283 := B268.trans (b282.mono B268.size)
        clear B268
        replace H219 := Lib.hid ((b282.block _ (Array.getElem?_eq_some_iff.1 H219.out).1).trans H219.out)
        replace H231 := Lib.hid ((b282.block _ (Array.getElem?_eq_some_iff.1 H231.out).1).trans H231.out)
        replace H249 := Lib.hid ((b282.block _ (Array.getElem?_eq_some_iff.1 H249.out).1).trans H249.out)
        replace ix := Gts.below ix b282
        replace i1 := Gts.below i1 b282
        replace i3 := Gts.below i3 b282
        obtain ⟨cc284, cc285, cc286, cc287, cc288⟩ := cells5 H231.out
        have ll289 := (Array.getElem?_eq_some_iff.1 H231.out).1
        obtain ⟨cc290, cc291, cc292, cc293, cc294⟩ := cells5 H219.out
        have ll295 := (Array.getElem?_eq_some_iff.1 H219.out).1
        go_wp2
        go_ret
        exact ⟨rfl, B283⟩
      · have hA := ageN_2 (a := ag) h0 h9
        rw [hA] at hR hT
        rw [hR] at HI HJ
        have HF := Lib.hid (fun v a1 c1 (h : Gts v a1 xs) => implRecvValid_any r t a1 xs c1 l (99) v h (by omega))
        rw [hT] at HF
        have hzb : ((xs.length : Int) == 0) = false := beq_eq_false_iff_ne.2 (by omega)
        have h9' : 99 < ag + 1 := by omega
        clear h9
        clear h0 hA hR hT hB
        go_wp2_with fail
        refine name_calls fun W296 hW296 => ?_
        have zW296 : W296.heap.size = w2.heap.size + 1 := by rw [hW296]; simp
        have H2970 := (heap_new_at w2 (.cells #[.int .i64 r, .int .i64 t, .slice a xs.length c, .bool l, .int .i64 ag] 25 (0, 0)) (w2.heap.size) (by simp))
        rw [← hW296] at H2970
        have H297 := Lib.hid H2970
        clear H2970
        have B298 := (below_alloc3 B4 (.cells #[.int .i64 r, .int .i64 t, .slice a xs.length c, .bool l, .int .i64 ag] 25 (0, 0)))
        rw [← hW296] at B298
        clear B4
        replace ix := (Gts.keep ix (Keeps.alloc _ (.cells #[.int .i64 r, .int .i64 t, .slice a xs.length c, .bool l, .int .i64 ag] 25 (0, 0))))
        rw [← hW296] at ix
        clear hW296
        refine (HI.out W296 ix).mono ?_
        rintro e w299 ⟨a1, c1, rfl, o1, b300⟩
        have zw299 := b300.size
        have B301 := B298.trans (b300.mono B298.size)
        clear B298
        replace H297 := Lib.hid ((b300.block _ (Array.getElem?_eq_some_iff.1 H297.out).1).trans H297.out)
        replace ix := Gts.below ix b300
        have i1 : Gts w299 a1 xs := own_cells o1
        have hcap1 := own_cap o1
        clear o1
        obtain ⟨cc302, cc303, cc304, cc305, cc306⟩ := cells5 H297.out
        have ll307 := (Array.getElem?_eq_some_iff.1 H297.out).1
        go_wp2_with fail
        clear cc302 cc303 cc304 cc305 cc306 ll307
        refine name_calls fun W308 hW308 => ?_
        have zW308 : W308.heap.size = w299.heap.size + 1 := by rw [hW308]; simp
        have H3090 := (heap_new_at w299 (.cells #[.int .i64 r, .int .i64 t, .slice a1 xs.length c1, .bool l, .int .i64 99] 25 (0, 0)) (w299.heap.size) (by simp))
        rw [← hW308] at H3090
        have H309 := Lib.hid H3090
        clear H3090
        have B310 := (below_alloc3 B301 (.cells #[.int .i64 r, .int .i64 t, .slice a1 xs.length c1, .bool l, .int .i64 99] 25 (0, 0)))
        rw [← hW308] at B310
        clear B301
        have H2970 := (box_alloc H297.out (.cells #[.int .i64 r, .int .i64 t, .slice a1 xs.length c1, .bool l, .int .i64 99] 25 (0, 0)))
        rw [← hW308] at H2970
        clear H297
        have H297 := Lib.hid H2970
        clear H2970
        replace ix := (Gts.keep ix (Keeps.alloc _ (.cells #[.int .i64 r, .int .i64 t, .slice a1 xs.length c1, .bool l, .int .i64 99] 25 (0, 0))))
        rw [← hW308] at ix
        replace i1 := (Gts.keep i1 (Keeps.alloc _ (.cells #[.int .i64 r, .int .i64 t, .slice a1 xs.length c1, .bool l, .int .i64 99] 25 (0, 0))))
        rw [← hW308] at i1
        clear hW308
        refine (HJ.out W308 ix).mono ?_
        rintro e w311 ⟨a3, c3, rfl, o3, b312⟩
        have zw311 := b312.size
        have B313 := B310.trans (b312.mono B310.size)
        clear B310
        replace H297 := Lib.hid ((b312.block _ (Array.getElem?_eq_some_iff.1 H297.out).1).trans H297.out)
        replace H309 := Lib.hid ((b312.block _ (Array.getElem?_eq_some_iff.1 H309.out).1).trans H309.out)
        replace ix := Gts.below ix b312
        replace i1 := Gts.below i1 b312
        have i3 : Gts w311 a3 xs := own_cells o3
        clear o3
        obtain ⟨cc314, cc315, cc316, cc317, cc318⟩ := cells5 H309.out
        have ll319 := (Array.getElem?_eq_some_iff.1 H309.out).1
        obtain ⟨cc320, cc321, cc322, cc323, cc324⟩ := cells5 H297.out
        have ll325 := (Array.getElem?_eq_some_iff.1 H297.out).1
        go_wp2_with fail
        clear cc314 cc315 cc316 cc317 cc318 ll319 cc320 cc321 cc322 cc323 cc324 ll325
        refine name_calls fun W326 hW326 => ?_
        have zW326 : W326.heap.size = w311.heap.size + 1 := by rw [hW326]; simp
        have H3270 := (heap_new_at w311 (.cells #[.int .i64 r, .int .i64 t, .slice a3 xs.length c3, .bool l, .int .i64 99] 25 (0, 0)) (w311.heap.size) (by simp))
        rw [← hW326] at H3270
        have H327 := Lib.hid H3270
        clear H3270
        have B328 := (below_alloc3 B313 (.cells #[.int .i64 r, .int .i64 t, .slice a3 xs.length c3, .bool l, .int .i64 99] 25 (0, 0)))
        rw [← hW326] at B328
        clear B313
        have H2970 := (box_alloc H297.out (.cells #[.int .i64 r, .int .i64 t, .slice a3 xs.length c3, .bool l, .int .i64 99] 25 (0, 0)))
        rw [← hW326] at H2970
        clear H297
        have H297 := Lib.hid H2970
        clear H2970
        have H3090 := (box_alloc H309.out (.cells #[.int .i64 r, .int .i64 t, .slice a3 xs.length c3, .bool l, .int .i64 99] 25 (0, 0)))
        rw [← hW326] at H3090
        clear H309
        have H309 := Lib.hid H3090
        clear H3090
        replace ix := (Gts.keep ix (Keeps.alloc _ (.cells #[.int .i64 r, .int .i64 t, .slice a3 xs.length c3, .bool l, .int .i64 99] 25 (0, 0))))
        rw [← hW326] at ix
        replace i1 := (Gts.keep i1 (Keeps.alloc _ (.cells #[.int .i64 r, .int .i64 t, .slice a3 xs.length c3, .bool l, .int .i64 99] 25 (0, 0))))
        rw [← hW326] at i1
        replace i3 := (Gts.keep i3 (Keeps.alloc _ (.cells #[.int .i64 r, .int .i64 t, .slice a3 xs.length c3, .bool l, .int .i64 99] 25 (0, 0))))
        rw [← hW326] at i3
        clear hW326
        refine (sameRecv_any r t l 99 r t l 99 a1 a3 xs xs c1 c3 W326 i1 i3 (by omega) (by omega)).mono ?_
        rintro e w329 ⟨rfl, b330⟩
        have zw329 := b330.size
        have B331 := B328.trans (b330.mono B328.size)
        clear B328
        replace H297 := Lib.hid ((b330.block _ (Array.getElem?_eq_some_iff.1 H297.out).1).trans H297.out)
        replace H309 := Lib.hid ((b330.block _ (Array.getElem?_eq_some_iff.1 H309.out).1).trans H309.out)
        replace H327 := Lib.hid ((b330.block _ (Array.getElem?_eq_some_iff.1 H327.out).1).trans H327.out)
        replace ix := Gts.below ix b330
        replace i1 := Gts.below i1 b330
        replace i3 := Gts.below i3 b330
        obtain ⟨cc332, cc333, cc334, cc335, cc336⟩ := cells5 H309.out
        have ll337 := (Array.getElem?_eq_some_iff.1 H309.out).1
        obtain ⟨cc338, cc339, cc340, cc341, cc342⟩ := cells5 H297.out
        have ll343 := (Array.getElem?_eq_some_iff.1 H297.out).1
        go_wp2_with fail
        clear cc332 cc333 cc334 cc335 cc336 ll337 cc338 cc339 cc340 cc341 cc342 ll343
        refine (HF.out w329 a1 c1 i1).mono ?_
        rintro e w344 ⟨rfl, b345⟩
        have zw344 := b345.size
        have B346 := B331.trans (b345.mono B331.size)
        clear B331
        replace H297 := Lib.hid ((b345.block _ (Array.getElem?_eq_some_iff.1 H297.out).1).trans H297.out)
        replace H309 := Lib.hid ((b345.block _ (Array.getElem?_eq_some_iff.1 H309.out).1).trans H309.out)
        replace H327 := Lib.hid ((b345.block _ (Array.getElem?_eq_some_iff.1 H327.out).1).trans H327.out)
        replace ix := Gts.below ix b345
        replace i1 := Gts.below i1 b345
        replace i3 := Gts.below i3 b345
        obtain ⟨cc347, cc348, cc349, cc350, cc351⟩ := cells5 H309.out
        have ll352 := (Array.getElem?_eq_some_iff.1 H309.out).1
        obtain ⟨cc353, cc354, cc355, cc356, cc357⟩ := cells5 H297.out
        have ll358 := (Array.getElem?_eq_some_iff.1 H297.out).1
        go_wp2_with fail
        clear cc347 cc348 cc349 cc350 cc351 ll352 cc353 cc354 cc355 cc356 cc357 ll358
        refine (sameGot_below a1 a xs xs c1 c w344 i1 ix (by omega) (by omega)).mono ?_
        rintro e w359 ⟨rfl, b360⟩
        have zw359 := b360.size
        have B361 := B346.trans (b360.mono B346.size)
        clear B346
        replace H297 := Lib.hid ((b360.block _ (Array.getElem?_eq_some_iff.1 H297.out).1).trans H297.out)
        replace H309 := Lib.hid ((b360.block _ (Array.getElem?_eq_some_iff.1 H309.out).1).trans H309.out)
        replace H327 := Lib.hid ((b360.block _ (Array.getElem?_eq_some_iff.1 H327.out).1).trans H327.out)
        replace ix := Gts.below ix b360
        replace i1 := Gts.below i1 b360
        replace i3 := Gts.below i3 b360
        obtain ⟨cc362, cc363, cc364, cc365, cc366⟩ := cells5 H309.out
        have ll367 := (Array.getElem?_eq_some_iff.1 H309.out).1
        obtain ⟨cc368, cc369, cc370, cc371, cc372⟩ := cells5 H297.out
        have ll373 := (Array.getElem?_eq_some_iff.1 H297.out).1
        go_wp2
        go_ret
        exact ⟨rfl, B361⟩

set_option linter.unusedVariables false in
set_option maxRecDepth 100000 in
theorem FnRecvTick_lifted (os : Os) (started : os.Started) (H : Type) (enc : TypeId × Value → H) :
    ReturnsInHanded {} Try.checked os 6 .any (Rows.fnRecvTickSpec.pre6 enc Try.prog Try.f6 Rows.fnRecvTickRow.domain false) (Rows.fnRecvTickSpec.post enc Try.prog Try.f6 false true false false) := by
  refine returnsInHanded_of_change (C := Try.checked) own_knob started (by kernel_rfl) Try.func6
    (ChangeSpec.witness6 (enc := enc) (C := Try.checked) false ⟨#[], #[.slice none 0 0], []⟩ 8 (by kernel_rfl) (by kernel_rfl) (by kernel_rfl) (by kernel_rfl)) ?_
  intro W base args ds gs before hval0 hW hcnd _
  have hval : ∀ (j : Nat) t v, Try.f6.params[j]? = some t → args[j]? = some v → Value.okWide Try.prog W .any base t v := hval0
  have hW' := hW
  obtain ⟨p, q, hA0, hV, rfl, hfz, hnd⟩ := hW
  have hA : DataW.TrodAll enc Try.prog W 0 (fun _ => true) true Try.f6.params.toList args.toList ds p := hA0
  rw [Try.params6] at hA hval
  obtain ⟨v0, vs0, d0, ds0, p0, q0, hargs, rfl, rfl, h0, r0⟩ := trodAll_cons hA
  obtain ⟨rfl, rfl, rfl⟩ := trodAll_nil r0
  obtain rfl : args = #[v0] := by cases args; simp_all
  obtain ⟨rfl, rfl⟩ := trodVars_none hV
  have k0 := h0
  have lt0 : ∀ x ∈ p0, x.block < W.heap.size := by obtain ⟨m, hm⟩ := k0; exact DataW.trod_lt m _ _ _ hm
  obtain ⟨a0, len0, cap0, rfl⟩ := okWide_slice Try.underlying22 (hval 0 22 v0 rfl rfl)
  obtain ⟨z0, rfl, lc0, lm0, rz0⟩ : ∃ z : List Int, len0 = z.length ∧ z.length ≤ cap0 ∧ cap0 ≤ maxLen ∧ Bytes W a0 z := by
    obtain ⟨fuel, hf⟩ := h0
    obtain ⟨ao, cap, z, e, h1, h2, h3⟩ := rd_bytes hf
    simp [Value.cells] at e
    obtain ⟨rfl, rfl, rfl⟩ := e
    exact ⟨z, rfl, h1, h2, h3⟩
  have lb0 : z0.length ≤ cap0 := lc0
  clear hA0 hval0
  refine (FnRecvTick_walk a0 z0 cap0 W rz0 lc0 lm0).mono fun e W' ⟨he, bel⟩ => ?_
  subst he
  exact ⟨_, rfl, _, _, _, [], _, [], hW', trodAll_mk1 (shut_bool Try.underlying4 _), (trodAll_cons_mk (Below.trod laid_out (by kernel_rfl) (of_decide_eq_true (by kernel_rfl)) k0 bel lt0) trodAll_mk0), rfl, bel.frame _, fun h => by cases h⟩

theorem FnRecvTick_holds : Rows.FnRecvTickSaid :=
  OpenClaim.holds_of_wide 6 Try.f6 rfl rfl rfl rfl rfl rfl rfl ⟨rfl, rfl, rfl, rfl, rfl⟩ rfl rfl rfl rfl rfl (by kernel_rfl) Try.func6 (by kernel_rfl)
    (of_decide_eq_true (by kernel_rfl)) (by unfold Func.isWrapper; first | (rw [if_pos (by decide +kernel)]; kernel_rfl) | (rw [if_neg (by decide +kernel)]; exact ⟨rfl, rfl⟩))
    (fun os started H enc _ => FnRecvTick_lifted os started H enc)
end Go.Proofs.Ytmmdbbnmifpciaa
