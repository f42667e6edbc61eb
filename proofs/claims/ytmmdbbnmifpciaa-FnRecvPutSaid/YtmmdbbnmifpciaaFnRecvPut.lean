/- FnRecvPut: A byte that comes waits behind the others, or is lost. No conditions beyond the statement's own. -/
import Derived.Test.YtmmdbbnmifpciaaRecvLaw
namespace Go.Proofs.Ytmmdbbnmifpciaa
open Go.ChangeShapes Go.WideShapes Go.ChangeAt Go.RowKit

set_option maxHeartbeats 4000000 in
set_option maxRecDepth 100000 in
theorem FnRecvPut_walk (a0 : Option Addr) (z0 : List Int) (cap0 : Nat) (w : World) (rz0 : Bytes w a0 z0) (lc0 : z0.length ≤ cap0) (_lm0 : cap0 ≤ maxLen) :
    Calls Try.prog 4 #[.slice a0 z0.length cap0] w fun e w' => e = .returned (.bool true) ∧ Below w.heap.size w w' := by
  unfold maxLen at _lm0
  by_cases hn0 : (z0.length : Int) ≤ 1048576
  case neg =>
    have hn0' : (1048576 : Int) < (z0.length : Int) := by omega
    go_enter Try.func4, Try.ntmps4
    go_wp2
    go_ret
    exact ⟨rfl, Below.refl _ _⟩
  go_enter Try.func4, Try.ntmps4
  have B1 : Below w.heap.size w w := Below.refl _ _
  go_wp2_with fail
  refine (drawRecvPut_any a0 z0 cap0 w rz0 lc0 (by omega)).mono ?_
  rintro e w2 ⟨r, t, a, xs, c, l, ag, gb, gc, rfl, lx, ox, b3⟩
  have zw2 := b3.size
  have B4 := B1.trans (b3.mono B1.size)
  clear B1
  have ix : Gts w2 a xs := own_cells ox
  have HC := Lib.hid (own_nilcap ox)
  clear ox
  have HI := Lib.hid (fun v h => implRecvPut_any r t a xs c l ag gb gc v h (by omega))
  have HJ := Lib.hid (fun v h => specRecvPut_any r t a xs c l ag gb gc v h (by omega) HC.out)
  cases hB : rputB r t xs ag ⟨gb, gc⟩
  · rw [rputR_no hB] at HI HJ
    go_wp2_with fail
    refine name_calls fun W5 hW5 => ?_
    have zW5 : W5.heap.size = w2.heap.size + 2 := by rw [hW5]; simp
    have H60 := (box_alloc (heap_new_at w2 (.cells #[.int .i64 r, .int .i64 t, .slice a xs.length c, .bool l, .int .i64 ag] 25 (0, 0)) (w2.heap.size) (by simp)) (.cells #[.int .i64 gb, .int .i64 gc] 33 (0, 0)))
    rw [← hW5] at H60
    have H6 := Lib.hid H60
    clear H60
    have H70 := (heap_new_at (w2.alloc (.cells #[.int .i64 r, .int .i64 t, .slice a xs.length c, .bool l, .int .i64 ag] 25 (0, 0))) (.cells #[.int .i64 gb, .int .i64 gc] 33 (0, 0)) (w2.heap.size + 1) (by simp))
    rw [← hW5] at H70
    have H7 := Lib.hid H70
    clear H70
    have B8 := (below_alloc3 (below_alloc3 B4 (.cells #[.int .i64 r, .int .i64 t, .slice a xs.length c, .bool l, .int .i64 ag] 25 (0, 0))) (.cells #[.int .i64 gb, .int .i64 gc] 33 (0, 0)))
    rw [← hW5] at B8
    clear B4
    replace ix := (Gts.keep (Gts.keep ix (Keeps.alloc _ (.cells #[.int .i64 r, .int .i64 t, .slice a xs.length c, .bool l, .int .i64 ag] 25 (0, 0)))) (Keeps.alloc _ (.cells #[.int .i64 gb, .int .i64 gc] 33 (0, 0))))
    rw [← hW5] at ix
    clear hW5
    refine (HI.out W5 ix).mono ?_
    rintro e w9 ⟨a1, c1, rfl, o1, b10⟩
    have zw9 := b10.size
    have B11 := B8.trans (b10.mono B8.size)
    clear B8
    replace H6 := Lib.hid ((b10.block _ (Array.getElem?_eq_some_iff.1 H6.out).1).trans H6.out)
    replace H7 := Lib.hid ((b10.block _ (Array.getElem?_eq_some_iff.1 H7.out).1).trans H7.out)
    replace ix := Gts.below ix b10
    have i1 : Gts w9 a1 [] := own_cells o1
    have hcap1 := own_cap o1
    clear o1
    obtain ⟨cc12, cc13, cc14, cc15, cc16⟩ := cells5 H6.out
    have ll17 := (Array.getElem?_eq_some_iff.1 H6.out).1
    obtain ⟨cc18, cc19⟩ := cells2 H7.out
    have ll20 := (Array.getElem?_eq_some_iff.1 H7.out).1
    go_wp2_with fail
    clear cc12 cc13 cc14 cc15 cc16 ll17 cc18 cc19 ll20
    refine name_calls fun W21 hW21 => ?_
    have zW21 : W21.heap.size = w9.heap.size + 1 := by rw [hW21]; simp
    have H220 := (heap_new_at w9 (.cells #[.int .i64 0, .int .i64 0, .slice a1 0 c1, .bool false, .int .i64 0] 25 (0, 0)) (w9.heap.size) (by simp))
    rw [← hW21] at H220
    have H22 := Lib.hid H220
    clear H220
    have B23 := (below_alloc3 B11 (.cells #[.int .i64 0, .int .i64 0, .slice a1 0 c1, .bool false, .int .i64 0] 25 (0, 0)))
    rw [← hW21] at B23
    clear B11
    have H60 := (box_alloc H6.out (.cells #[.int .i64 0, .int .i64 0, .slice a1 0 c1, .bool false, .int .i64 0] 25 (0, 0)))
    rw [← hW21] at H60
    clear H6
    have H6 := Lib.hid H60
    clear H60
    have H70 := (box_alloc H7.out (.cells #[.int .i64 0, .int .i64 0, .slice a1 0 c1, .bool false, .int .i64 0] 25 (0, 0)))
    rw [← hW21] at H70
    clear H7
    have H7 := Lib.hid H70
    clear H70
    replace ix := (Gts.keep ix (Keeps.alloc _ (.cells #[.int .i64 0, .int .i64 0, .slice a1 0 c1, .bool false, .int .i64 0] 25 (0, 0))))
    rw [← hW21] at ix
    replace i1 := (Gts.keep i1 (Keeps.alloc _ (.cells #[.int .i64 0, .int .i64 0, .slice a1 0 c1, .bool false, .int .i64 0] 25 (0, 0))))
    rw [← hW21] at i1
    clear hW21
    refine (HJ.out W21 ix).mono ?_
    rintro e w24 ⟨a3, c3, rfl, o3, b25⟩
    have zw24 := b25.size
    have B26 := B23.trans (b25.mono B23.size)
    clear B23
    replace H6 := Lib.hid ((b25.block _ (Array.getElem?_eq_some_iff.1 H6.out).1).trans H6.out)
    replace H7 := Lib.hid ((b25.block _ (Array.getElem?_eq_some_iff.1 H7.out).1).trans H7.out)
    replace H22 := Lib.hid ((b25.block _ (Array.getElem?_eq_some_iff.1 H22.out).1).trans H22.out)
    replace ix := Gts.below ix b25
    replace i1 := Gts.below i1 b25
    have i3 : Gts w24 a3 [] := own_cells o3
    clear o3
    obtain ⟨cc27, cc28, cc29, cc30, cc31⟩ := cells5 H22.out
    have ll32 := (Array.getElem?_eq_some_iff.1 H22.out).1
    obtain ⟨cc33, cc34, cc35, cc36, cc37⟩ := cells5 H6.out
    have ll38 := (Array.getElem?_eq_some_iff.1 H6.out).1
    go_wp2_with fail
    clear cc27 cc28 cc29 cc30 cc31 ll32 cc33 cc34 cc35 cc36 cc37 ll38
    refine name_calls fun W39 hW39 => ?_
    have zW39 : W39.heap.size = w24.heap.size + 1 := by rw [hW39]; simp
    have H400 := (heap_new_at w24 (.cells #[.int .i64 0, .int .i64 0, .slice a3 0 c3, .bool false, .int .i64 0] 25 (0, 0)) (w24.heap.size) (by simp))
    rw [← hW39] at H400
    have H40 := Lib.hid H400
    clear H400
    have B41 := (below_alloc3 B26 (.cells #[.int .i64 0, .int .i64 0, .slice a3 0 c3, .bool false, .int .i64 0] 25 (0, 0)))
    rw [← hW39] at B41
    clear B26
    have H60 := (box_alloc H6.out (.cells #[.int .i64 0, .int .i64 0, .slice a3 0 c3, .bool false, .int .i64 0] 25 (0, 0)))
    rw [← hW39] at H60
    clear H6
    have H6 := Lib.hid H60
    clear H60
    have H70 := (box_alloc H7.out (.cells #[.int .i64 0, .int .i64 0, .slice a3 0 c3, .bool false, .int .i64 0] 25 (0, 0)))
    rw [← hW39] at H70
    clear H7
    have H7 := Lib.hid H70
    clear H70
    have H220 := (box_alloc H22.out (.cells #[.int .i64 0, .int .i64 0, .slice a3 0 c3, .bool false, .int .i64 0] 25 (0, 0)))
    rw [← hW39] at H220
    clear H22
    have H22 := Lib.hid H220
    clear H220
    replace ix := (Gts.keep ix (Keeps.alloc _ (.cells #[.int .i64 0, .int .i64 0, .slice a3 0 c3, .bool false, .int .i64 0] 25 (0, 0))))
    rw [← hW39] at ix
    replace i1 := (Gts.keep i1 (Keeps.alloc _ (.cells #[.int .i64 0, .int .i64 0, .slice a3 0 c3, .bool false, .int .i64 0] 25 (0, 0))))
    rw [← hW39] at i1
    replace i3 := (Gts.keep i3 (Keeps.alloc _ (.cells #[.int .i64 0, .int .i64 0, .slice a3 0 c3, .bool false, .int .i64 0] 25 (0, 0))))
    rw [← hW39] at i3
    clear hW39
    refine (sameRecv_any 0 0 false 0 0 0 false 0 a1 a3 [] [] c1 c3 W39 i1 i3 (by simp) (by simp)).mono ?_
    rintro e w42 ⟨rfl, b43⟩
    have zw42 := b43.size
    have B44 := B41.trans (b43.mono B41.size)
    clear B41
    replace H6 := Lib.hid ((b43.block _ (Array.getElem?_eq_some_iff.1 H6.out).1).trans H6.out)
    replace H7 := Lib.hid ((b43.block _ (Array.getElem?_eq_some_iff.1 H7.out).1).trans H7.out)
    replace H22 := Lib.hid ((b43.block _ (Array.getElem?_eq_some_iff.1 H22.out).1).trans H22.out)
    replace H40 := Lib.hid ((b43.block _ (Array.getElem?_eq_some_iff.1 H40.out).1).trans H40.out)
    replace ix := Gts.below ix b43
    replace i1 := Gts.below i1 b43
    replace i3 := Gts.below i3 b43
    obtain ⟨cc45, cc46, cc47, cc48, cc49⟩ := cells5 H22.out
    have ll50 := (Array.getElem?_eq_some_iff.1 H22.out).1
    obtain ⟨cc51, cc52, cc53, cc54, cc55⟩ := cells5 H40.out
    have ll56 := (Array.getElem?_eq_some_iff.1 H40.out).1
    obtain ⟨cc57, cc58, cc59, cc60, cc61⟩ := cells5 H6.out
    have ll62 := (Array.getElem?_eq_some_iff.1 H6.out).1
    go_wp2_with fail
    clear cc45 cc46 cc47 cc48 cc49 ll50 cc51 cc52 cc53 cc54 cc55 ll56 cc57 cc58 cc59 cc60 cc61 ll62
    refine (sameRecv_any 0 0 false 0 0 0 false 0 a1 a3 [] [] c1 c3 w42 i1 i3 (by simp) (by simp)).mono ?_
    rintro e w63 ⟨rfl, b64⟩
    have zw63 := b64.size
    have B65 := B44.trans (b64.mono B44.size)
    clear B44
    replace H6 := Lib.hid ((b64.block _ (Array.getElem?_eq_some_iff.1 H6.out).1).trans H6.out)
    replace H7 := Lib.hid ((b64.block _ (Array.getElem?_eq_some_iff.1 H7.out).1).trans H7.out)
    replace H22 := Lib.hid ((b64.block _ (Array.getElem?_eq_some_iff.1 H22.out).1).trans H22.out)
    replace H40 := Lib.hid ((b64.block _ (Array.getElem?_eq_some_iff.1 H40.out).1).trans H40.out)
    replace ix := Gts.below ix b64
    replace i1 := Gts.below i1 b64
    replace i3 := Gts.below i3 b64
    go_wp2
    go_ret
    exact ⟨rfl, B65⟩
  · by_cases hl : (xs.length : Int) < r
    · have hR := rputR_yes (l := l) hB hl
      have hff := recvB_facts (rputB_recv hB)
      have hr16 := hff.1.2
      clear hff
      have HS := Lib.hid (recvB_put hB hl)
      obtain ⟨L, hL⟩ : ∃ L, L = xs ++ [(⟨gb, gc⟩ : Gt)] := ⟨_, rfl⟩
      rw [← hL] at hR HS
      rw [hR] at HI HJ
      have hLn : L.length = xs.length + 1 := by rw [hL]; simp
      have hLx : L[xs.length]? = some ⟨gb, gc⟩ := by rw [hL]; simp
      have hLt : L.take xs.length = xs := by rw [hL]; simp
      have hL17 : L.length ≤ 17 := by omega
      have HLx := Lib.hid hLx
      have HLt := Lib.hid hLt
      have HLn := Lib.hid hLn
      have hlb : ((xs.length : Int) == r) = false := beq_eq_false_iff_ne.2 (by omega)
      clear hL hR hLx hLt hLn hl hB
      go_wp2_with fail
      refine name_calls fun W66 hW66 => ?_
      have zW66 : W66.heap.size = w2.heap.size + 2 := by rw [hW66]; simp
      have H670 := (box_alloc (heap_new_at w2 (.cells #[.int .i64 r, .int .i64 t, .slice a xs.length c, .bool l, .int .i64 ag] 25 (0, 0)) (w2.heap.size) (by simp)) (.cells #[.int .i64 gb, .int .i64 gc] 33 (0, 0)))
      rw [← hW66] at H670
      have H67 := Lib.hid H670
      clear H670
      have H680 := (heap_new_at (w2.alloc (.cells #[.int .i64 r, .int .i64 t, .slice a xs.length c, .bool l, .int .i64 ag] 25 (0, 0))) (.cells #[.int .i64 gb, .int .i64 gc] 33 (0, 0)) (w2.heap.size + 1) (by simp))
      rw [← hW66] at H680
      have H68 := Lib.hid H680
      clear H680
      have B69 := (below_alloc3 (below_alloc3 B4 (.cells #[.int .i64 r, .int .i64 t, .slice a xs.length c, .bool l, .int .i64 ag] 25 (0, 0))) (.cells #[.int .i64 gb, .int .i64 gc] 33 (0, 0)))
      rw [← hW66] at B69
      clear B4
      replace ix := (Gts.keep (Gts.keep ix (Keeps.alloc _ (.cells #[.int .i64 r, .int .i64 t, .slice a xs.length c, .bool l, .int .i64 ag] 25 (0, 0)))) (Keeps.alloc _ (.cells #[.int .i64 gb, .int .i64 gc] 33 (0, 0))))
      rw [← hW66] at ix
      clear hW66
      refine (HI.out W66 ix).mono ?_
      rintro e w70 ⟨a1, c1, rfl, o1, b71⟩
      have zw70 := b71.size
      have B72 := B69.trans (b71.mono B69.size)
      clear B69
      replace H67 := Lib.hid ((b71.block _ (Array.getElem?_eq_some_iff.1 H67.out).1).trans H67.out)
      replace H68 := Lib.hid ((b71.block _ (Array.getElem?_eq_some_iff.1 H68.out).1).trans H68.out)
      replace ix := Gts.below ix b71
      have i1 : Gts w70 a1 L := own_cells o1
      have hcap1 := own_cap o1
      clear o1
      obtain ⟨cc73, cc74, cc75, cc76, cc77⟩ := cells5 H67.out
      have ll78 := (Array.getElem?_eq_some_iff.1 H67.out).1
      obtain ⟨cc79, cc80⟩ := cells2 H68.out
      have ll81 := (Array.getElem?_eq_some_iff.1 H68.out).1
      go_wp2_with fail
      clear cc73 cc74 cc75 cc76 cc77 ll78 cc79 cc80 ll81
      refine name_calls fun W82 hW82 => ?_
      have zW82 : W82.heap.size = w70.heap.size + 1 := by rw [hW82]; simp
      have H830 := (heap_new_at w70 (.cells #[.int .i64 r, .int .i64 t, .slice a1 L.length c1, .bool l, .int .i64 0] 25 (0, 0)) (w70.heap.size) (by simp))
      rw [← hW82] at H830
      have H83 := Lib.hid H830
      clear H830
      have B84 := (below_alloc3 B72 (.cells #[.int .i64 r, .int .i64 t, .slice a1 L.length c1, .bool l, .int .i64 0] 25 (0, 0)))
      rw [← hW82] at B84
      clear B72
      have H670 := (box_alloc H67.out (.cells #[.int .i64 r, .int .i64 t, .slice a1 L.length c1, .bool l, .int .i64 0] 25 (0, 0)))
      rw [← hW82] at H670
      clear H67
      have H67 := Lib.hid H670
      clear H670
      have H680 := (box_alloc H68.out (.cells #[.int .i64 r, .int .i64 t, .slice a1 L.length c1, .bool l, .int .i64 0] 25 (0, 0)))
      rw [← hW82] at H680
      clear H68
      have H68 := Lib.hid H680
      clear H680
      replace ix := (Gts.keep ix (Keeps.alloc _ (.cells #[.int .i64 r, .int .i64 t, .slice a1 L.length c1, .bool l, .int .i64 0] 25 (0, 0))))
      rw [← hW82] at ix
      replace i1 := (Gts.keep i1 (Keeps.alloc _ (.cells #[.int .i64 r, .int .i64 t, .slice a1 L.length c1, .bool l, .int .i64 0] 25 (0, 0))))
      rw [← hW82] at i1
      clear hW82
      refine (HJ.out W82 ix).mono ?_
      rintro e w85 ⟨a3, c3, rfl, o3, b86⟩
      have zw85 := b86.size
      have B87 := B84.trans (b86.mono B84.size)
      clear B84
      replace H67 := Lib.hid ((b86.block _ (Array.getElem?_eq_some_iff.1 H67.out).1).trans H67.out)
      replace H68 := Lib.hid ((b86.block _ (Array.getElem?_eq_some_iff.1 H68.out).1).trans H68.out)
      replace H83 := Lib.hid ((b86.block _ (Array.getElem?_eq_some_iff.1 H83.out).1).trans H83.out)
      replace ix := Gts.below ix b86
      replace i1 := Gts.below i1 b86
      have i3 : Gts w85 a3 L := own_cells o3
      clear o3
      obtain ⟨cc88, cc89, cc90, cc91, cc92⟩ := cells5 H83.out
      have ll93 := (Array.getElem?_eq_some_iff.1 H83.out).1
      obtain ⟨cc94, cc95, cc96, cc97, cc98⟩ := cells5 H67.out
      have ll99 := (Array.getElem?_eq_some_iff.1 H67.out).1
      go_wp2_with fail
      clear cc88 cc89 cc90 cc91 cc92 ll93 cc94 cc95 cc96 cc97 cc98 ll99
      refine name_calls fun W100 hW100 => ?_
      have zW100 : W100.heap.size = w85.heap.size + 1 := by rw [hW100]; simp
      have H1010 := (heap_new_at w85 (.cells #[.int .i64 r, .int .i64 t, .slice a3 L.length c3, .bool l, .int .i64 0] 25 (0, 0)) (w85.heap.size) (by simp))
      rw [← hW100] at H1010
      have H101 := Lib.hid H1010
      clear H1010
      have B102 := (below_alloc3 B87 (.cells #[.int .i64 r, .int .i64 t, .slice a3 L.length c3, .bool l, .int .i64 0] 25 (0, 0)))
      rw [← hW100] at B102
      clear B87
      have H670 := (box_alloc H67.out (.cells #[.int .i64 r, .int .i64 t, .slice a3 L.length c3, .bool l, .int .i64 0] 25 (0, 0)))
      rw [← hW100] at H670
      clear H67
      have H67 := Lib.hid H670
      clear H670
      have H680 := (box_alloc H68.out (.cells #[.int .i64 r, .int .i64 t, .slice a3 L.length c3, .bool l, .int .i64 0] 25 (0, 0)))
      rw [← hW100] at H680
      clear H68
      have H68 := Lib.hid H680
      clear H680
      have H830 := (box_alloc H83.out (.cells #[.int .i64 r, .int .i64 t, .slice a3 L.length c3, .bool l, .int .i64 0] 25 (0, 0)))
      rw [← hW100] at H830
      clear H83
      have H83 := Lib.hid H830
      clear H830
      replace ix := (Gts.keep ix (Keeps.alloc _ (.cells #[.int .i64 r, .int .i64 t, .slice a3 L.length c3, .bool l, .int .i64 0] 25 (0, 0))))
      rw [← hW100] at ix
      replace i1 := (Gts.keep i1 (Keeps.alloc _ (.cells #[.int .i64 r, .int .i64 t, .slice a3 L.length c3, .bool l, .int .i64 0] 25 (0, 0))))
      rw [← hW100] at i1
      replace i3 := (Gts.keep i3 (Keeps.alloc _ (.cells #[.int .i64 r, .int .i64 t, .slice a3 L.length c3, .bool l, .int .i64 0] 25 (0, 0))))
      rw [← hW100] at i3
      clear hW100
      refine (sameRecv_any r t l 0 r t l 0 a1 a3 L L c1 c3 W100 i1 i3 (by omega) (by omega)).mono ?_
      rintro e w103 ⟨rfl, b104⟩
      have zw103 := b104.size
      have B105 := B102.trans (b104.mono B102.size)
      clear B102
      replace H67 := Lib.hid ((b104.block _ (Array.getElem?_eq_some_iff.1 H67.out).1).trans H67.out)
      replace H68 := Lib.hid ((b104.block _ (Array.getElem?_eq_some_iff.1 H68.out).1).trans H68.out)
      replace H83 := Lib.hid ((b104.block _ (Array.getElem?_eq_some_iff.1 H83.out).1).trans H83.out)
      replace H101 := Lib.hid ((b104.block _ (Array.getElem?_eq_some_iff.1 H101.out).1).trans H101.out)
      replace ix := Gts.below ix b104
      replace i1 := Gts.below i1 b104
      replace i3 := Gts.below i3 b104
      obtain ⟨g1, off1, y, rfl, ey, _, hy0, hy1⟩ := i1.at_ (k := xs.length) (by have := HLn.out; omega)
      rw [HLx.out] at ey
      obtain rfl : (⟨gb, gc⟩ : Gt) = y := by simpa using ey
      dsimp only at hy0 hy1
      clear ey
      have py0 := fun p : After w103 => p.cell hy0
      have py1 := fun p : After w103 => p.cell hy1
      have hn0 : (0 : Int) ≤ (xs.length : Int) := by omega
      have hn1 : (xs.length : Int) < (L.length : Int) := by have := HLn.out; omega
      have hn2 : (xs.length : Int) ≤ (c1 : Int) := by have := HLn.out; omega
      have hnc : xs.length ≤ c1 := by omega
      have hc0 : c1 ≠ 0 := by have := HLn.out; omega
      have hLl : (L.length : Int) = (xs.length : Int) + 1 := by have := HLn.out; omega
      obtain ⟨u106, u107, u108, u109, u110⟩ := cells5 H83.out
      have pf111 := fun p : After w103 => p.cell u106
      have pf112 := fun p : After w103 => p.cell u107
      have pf113 := fun p : After w103 => p.cell u108
      have pf114 := fun p : After w103 => p.cell u109
      have pf115 := fun p : After w103 => p.cell u110
      clear u106 u107 u108 u109 u110
      obtain ⟨u116, u117, u118, u119, u120⟩ := cells5 H67.out
      have pf121 := fun p : After w103 => p.cell u116
      have pf122 := fun p : After w103 => p.cell u117
      have pf123 := fun p : After w103 => p.cell u118
      have pf124 := fun p : After w103 => p.cell u119
      have pf125 := fun p : After w103 => p.cell u120
      clear u116 u117 u118 u119 u120
      obtain ⟨u126, u127⟩ := cells2 H68.out
      have pf128 := fun p : After w103 => p.cell u126
      have pf129 := fun p : After w103 => p.cell u127
      clear u126 u127
      have HT := Lib.hid (show Gts w103 (some ⟨g1, off1, none⟩) xs by have := Gts.take i1 xs.length; rwa [HLt.out] at this)
      obtain ⟨cc130, cc131, cc132, cc133, cc134⟩ := cells5 H83.out
      have ll135 := (Array.getElem?_eq_some_iff.1 H83.out).1
      obtain ⟨cc136, cc137, cc138, cc139, cc140⟩ := cells5 H67.out
      have ll141 := (Array.getElem?_eq_some_iff.1 H67.out).1
      go_wp2_with fail
      clear cc130 cc131 cc132 cc133 cc134 ll135 cc136 cc137 cc138 cc139 cc140 ll141
      refine wp_region_after (by kernel_rfl) (by kernel_rfl) ?_
      repeat (go_big_quiet_step ((first | (go_at_call 18; exact After.call (sameGot_below _ a xs xs c1 c _ (HT.out.keep (After.keep _)) (ix.keep (After.keep _)) (by omega) (by omega))))))
      refine wpQuiet_nil ?_
      intro p
      go_wp2
      go_ret
      exact ⟨by simp, B105.trans (p.below.mono B105.size)⟩
    · have hR := rputR_full (l := l) hB hl
      have hff := recvB_facts (rputB_recv hB)
      have hlb : ((xs.length : Int) == r) = true := beq_iff_eq.2 (by omega)
      clear hff
      have HS := Lib.hid (recvB_full hB)
      rw [hR] at HI HJ
      clear hR hl hB
      go_wp2_with fail
      refine name_calls fun W142 hW142 => ?_
      have zW142 : W142.heap.size = w2.heap.size + 2 := by rw [hW142]; simp
      have H1430 := (box_alloc (heap_new_at w2 (.cells #[.int .i64 r, .int .i64 t, .slice a xs.length c, .bool l, .int .i64 ag] 25 (0, 0)) (w2.heap.size) (by simp)) (.cells #[.int .i64 gb, .int .i64 gc] 33 (0, 0)))
      rw [← hW142] at H1430
      have H143 := Lib.hid H1430
      clear H1430
      have H1440 := (heap_new_at (w2.alloc (.cells #[.int .i64 r, .int .i64 t, .slice a xs.length c, .bool l, .int .i64 ag] 25 (0, 0))) (.cells #[.int .i64 gb, .int .i64 gc] 33 (0, 0)) (w2.heap.size + 1) (by simp))
      rw [← hW142] at H1440
      have H144 := Lib.hid H1440
      clear H1440
      have B145 := (below_alloc3 (below_alloc3 B4 (.cells #[.int .i64 r, .int .i64 t, .slice a xs.length c, .bool l, .int .i64 ag] 25 (0, 0))) (.cells #[.int .i64 gb, .int .i64 gc] 33 (0, 0)))
      rw [← hW142] at B145
      clear B4
      replace ix := (Gts.keep (Gts.keep ix (Keeps.alloc _ (.cells #[.int .i64 r, .int .i64 t, .slice a xs.length c, .bool l, .int .i64 ag] 25 (0, 0)))) (Keeps.alloc _ (.cells #[.int .i64 gb, .int .i64 gc] 33 (0, 0))))
      rw [← hW142] at ix
      clear hW142
      refine (HI.out W142 ix).mono ?_
      rintro e w146 ⟨a1, c1, rfl, o1, b147⟩
      have zw146 := b147.size
      have B148 := B145.trans (b147.mono B145.size)
      clear B145
      replace H143 := Lib.hid ((b147.block _ (Array.getElem?_eq_some_iff.1 H143.out).1).trans H143.out)
      replace H144 := Lib.hid ((b147.block _ (Array.getElem?_eq_some_iff.1 H144.out).1).trans H144.out)
      replace ix := Gts.below ix b147
      have i1 : Gts w146 a1 xs := own_cells o1
      have hcap1 := own_cap o1
      clear o1
      obtain ⟨cc149, cc150, cc151, cc152, cc153⟩ := cells5 H143.out
      have ll154 := (Array.getElem?_eq_some_iff.1 H143.out).1
      obtain ⟨cc155, cc156⟩ := cells2 H144.out
      have ll157 := (Array.getElem?_eq_some_iff.1 H144.out).1
      go_wp2_with fail
      clear cc149 cc150 cc151 cc152 cc153 ll154 cc155 cc156 ll157
      refine name_calls fun W158 hW158 => ?_
      have zW158 : W158.heap.size = w146.heap.size + 1 := by rw [hW158]; simp
      have H1590 := (heap_new_at w146 (.cells #[.int .i64 r, .int .i64 t, .slice a1 xs.length c1, .bool true, .int .i64 0] 25 (0, 0)) (w146.heap.size) (by simp))
      rw [← hW158] at H1590
      have H159 := Lib.hid H1590
      clear H1590
      have B160 := (below_alloc3 B148 (.cells #[.int .i64 r, .int .i64 t, .slice a1 xs.length c1, .bool true, .int .i64 0] 25 (0, 0)))
      rw [← hW158] at B160
      clear B148
      have H1430 := (box_alloc H143.out (.cells #[.int .i64 r, .int .i64 t, .slice a1 xs.length c1, .bool true, .int .i64 0] 25 (0, 0)))
      rw [← hW158] at H1430
      clear H143
      have H143 := Lib.hid H1430
      clear H1430
      have H1440 := (box_alloc H144.out (.cells #[.int .i64 r, .int .i64 t, .slice a1 xs.length c1, .bool true, .int .i64 0] 25 (0, 0)))
      rw [← hW158] at H1440
      clear H144
      have H144 := Lib.hid H1440
      clear H1440
      replace ix := (Gts.keep ix (Keeps.alloc _ (.cells #[.int .i64 r, .int .i64 t, .slice a1 xs.length c1, .bool true, .int .i64 0] 25 (0, 0))))
      rw [← hW158] at ix
      replace i1 := (Gts.keep i1 (Keeps.alloc _ (.cells #[.int .i64 r, .int .i64 t, .slice a1 xs.length c1, .bool true, .int .i64 0] 25 (0, 0))))
      rw [← hW158] at i1
      clear hW158
      refine (HJ.out W158 ix).mono ?_
      rintro e w161 ⟨a3, c3, rfl, o3, b162⟩
      have zw161 := b162.size
      have B163 := B160.trans (b162.mono B160.size)
      clear B160
      replace H143 := Lib.hid ((b162.block _ (Array.getElem?_eq_some_iff.1 H143.out).1).trans H143.out)
      replace H144 := Lib.hid ((b162.block _ (Array.getElem?_eq_some_iff.1 H144.out).1).trans H144.out)
      replace H159 := Lib.hid ((b162.block _ (Array.getElem?_eq_some_iff.1 H159.out).1).trans H159.out)
      replace ix := Gts.below ix b162
      replace i1 := Gts.below i1 b162
      have i3 : Gts w161 a3 xs := own_cells o3
      clear o3
      obtain ⟨cc164, cc165, cc166, cc167, cc168⟩ := cells5 H159.out
      have ll169 := (Array.getElem?_eq_some_iff.1 H159.out).1
      obtain ⟨cc170, cc171, cc172, cc173, cc174⟩ := cells5 H143.out
      have ll175 := (Array.getElem?_eq_some_iff.1 H143.out).1
      go_wp2_with fail
      clear cc164 cc165 cc166 cc167 cc168 ll169 cc170 cc171 cc172 cc173 cc174 ll175
      refine name_calls fun W176 hW176 => ?_
      have zW176 : W176.heap.size = w161.heap.size + 1 := by rw [hW176]; simp
      have H1770 := (heap_new_at w161 (.cells #[.int .i64 r, .int .i64 t, .slice a3 xs.length c3, .bool true, .int .i64 0] 25 (0, 0)) (w161.heap.size) (by simp))
      rw [← hW176] at H1770
      have H177 := Lib.hid H1770
      clear H1770
      have B178 := (below_alloc3 B163 (.cells #[.int .i64 r, .int .i64 t, .slice a3 xs.length c3, .bool true, .int .i64 0] 25 (0, 0)))
      rw [← hW176] at B178
      clear B163
      have H1430 := (box_alloc H143.out (.cells #[.int .i64 r, .int .i64 t, .slice a3 xs.length c3, .bool true, .int .i64 0] 25 (0, 0)))
      rw [← hW176] at H1430
      clear H143
      have H143 := Lib.hid H1430
      clear H1430
      have H1440 := (box_alloc H144.out (.cells #[.int .i64 r, .int .i64 t, .slice a3 xs.length c3, .bool true, .int .i64 0] 25 (0, 0)))
      rw [← hW176] at H1440
      clear H144
      have H144 := Lib.hid H1440
      clear H1440
      have H1590 := (box_alloc H159.out (.cells #[.int .i64 r, .int .i64 t, .slice a3 xs.length c3, .bool true, .int .i64 0] 25 (0, 0)))
      rw [← hW176] at H1590
      clear H159
      have H159 := Lib.hid H1590
      clear H1590
      replace ix := (Gts.keep ix (Keeps.alloc _ (.cells #[.int .i64 r, .int .i64 t, .slice a3 xs.length c3, .bool true, .int .i64 0] 25 (0, 0))))
      rw [← hW176] at ix
      replace i1 := (Gts.keep i1 (Keeps.alloc _ (.cells #[.int .i64 r, .int .i64 t, .slice a3 xs.length c3, .bool true, .int .i64 0] 25 (0, 0))))
      rw [← hW176] at i1
      replace i3 := (Gts.keep i3 (Keeps.alloc _ (.cells #[.int .i64 r, .int .i64 t, .slice a3 xs.length c3, .bool true, .int .i64 0] 25 (0, 0))))
      rw [← hW176] at i3
      clear hW176
      refine (sameRecv_any r t true 0 r t true 0 a1 a3 xs xs c1 c3 W176 i1 i3 (by omega) (by omega)).mono ?_
      rintro e w179 ⟨rfl, b180⟩
      have zw179 := b180.size
      have B181 := B178.trans (b180.mono B178.size)
      clear B178
      replace H143 := Lib.hid ((b180.block _ (Array.getElem?_eq_some_iff.1 H143.out).1).trans H143.out)
      replace H144 := Lib.hid ((b180.block _ (Array.getElem?_eq_some_iff.1 H144.out).1).trans H144.out)
      replace H159 := Lib.hid ((b180.block _ (Array.getElem?_eq_some_iff.1 H159.out).1).trans H159.out)
      replace H177 := Lib.hid ((b180.block _ (Array.getElem?_eq_some_iff.1 H177.out).1).trans H177.out)
      replace ix := Gts.below ix b180
      replace i1 := Gts.below i1 b180
      replace i3 := Gts.below i3 b180
      obtain ⟨cc182, cc183, cc184, cc185, cc186⟩ := cells5 H159.out
      have ll187 := (Array.getElem?_eq_some_iff.1 H159.out).1
      obtain ⟨cc188, cc189, cc190, cc191, cc192⟩ := cells5 H143.out
      have ll193 := (Array.getElem?_eq_some_iff.1 H143.out).1
      go_wp2_with fail
      clear cc182 cc183 cc184 cc185 cc186 ll187 cc188 cc189 cc190 cc191 cc192 ll193
      refine (sameGot_below a1 a xs xs c1 c w179 i1 ix (by omega) (by omega)).mono ?_
      rintro e w194 ⟨rfl, b195⟩
      have zw194 := b195.size
      have B196 := B181.trans (b195.mono B181.size)
      clear B181
      replace H143 := Lib.hid ((b195.block _ (Array.getElem?_eq_some_iff.1 H143.out).1).trans H143.out)
      replace H144 := Lib.hid ((b195.block _ (Array.getElem?_eq_some_iff.1 H144.out).1).trans H144.out)
      replace H159 := Lib.hid ((b195.block _ (Array.getElem?_eq_some_iff.1 H159.out).1).trans H159.out)
      replace H177 := Lib.hid ((b195.block _ (Array.getElem?_eq_some_iff.1 H177.out).1).trans H177.out)
      replace ix := Gts.below ix b195
      replace i1 := Gts.below i1 b195
      replace i3 := Gts.below i3 b195
      obtain ⟨cc197, cc198, cc199, cc200, cc201⟩ := cells5 H159.out
      have ll202 := (Array.getElem?_eq_some_iff.1 H159.out).1
      obtain ⟨cc203, cc204, cc205, cc206, cc207⟩ := cells5 H143.out
      have ll208 := (Array.getElem?_eq_some_iff.1 H143.out).1
      go_wp2
      go_ret
      exact ⟨rfl, B196⟩

set_option linter.unusedVariables false in
set_option maxRecDepth 100000 in
theorem FnRecvPut_lifted (os : Os) (started : os.Started) (H : Type) (enc : TypeId × Value → H) :
    ReturnsInHanded {} Try.checked os 4 .any (Rows.fnRecvPutSpec.pre6 enc Try.prog Try.f4 Rows.fnRecvPutRow.domain false) (Rows.fnRecvPutSpec.post enc Try.prog Try.f4 false true false false) := by
  refine returnsInHanded_of_change (C := Try.checked) own_knob started (by kernel_rfl) Try.func4
    (ChangeSpec.witness6 (enc := enc) (C := Try.checked) false ⟨#[], #[.slice none 0 0], []⟩ 8 (by kernel_rfl) (by kernel_rfl) (by kernel_rfl) (by kernel_rfl)) ?_
  intro W base args ds gs before hval0 hW hcnd _
  have hval : ∀ (j : Nat) t v, Try.f4.params[j]? = some t → args[j]? = some v → Value.okWide Try.prog W .any base t v := hval0
  have hW' := hW
  obtain ⟨p, q, hA0, hV, rfl, hfz, hnd⟩ := hW
  have hA : DataW.TrodAll enc Try.prog W 0 (fun _ => true) true Try.f4.params.toList args.toList ds p := hA0
  rw [Try.params4] at hA hval
  obtain ⟨v0, vs0, d0, ds0, p0, q0, hargs, rfl, rfl, h0, r0⟩ := trodAll_cons hA
  obtain ⟨rfl, rfl, rfl⟩ := trodAll_nil r0
  obtain rfl : args = #[v0] := by cases args; simp_all
  obtain ⟨rfl, rfl⟩ := trodVars_none hV
  have k0 := h0
  have lt0 : ∀ x ∈ p0, x.block < W.heap.size := by obtain ⟨m, hm⟩ := k0; exact DataW.trod_lt m _ _ _ hm
  obtain ⟨a0, len0, cap0, rfl⟩ := okWide_slice Try.underlying22 (hval 0 22 v0 rfl rfl)
  obtain ⟨z0, rfl, lc0, lm0, rz0⟩ : ∃ z : List Int, len0 = z.length ∧ z.length ≤ cap0 ∧ cap0 ≤ maxLen ∧ Bytes W a0 z := by
    obtain ⟨fuel, hf⟩ := h0
    obtain ⟨ao, cap, z, e, h1, h2, h3⟩ := rd_bytes hf
    simp [Value.cells] at e
    obtain ⟨rfl, rfl, rfl⟩ := e
    exact ⟨z, rfl, h1, h2, h3⟩
  have lb0 : z0.length ≤ cap0 := lc0
  clear hA0 hval0
  refine (FnRecvPut_walk a0 z0 cap0 W rz0 lc0 lm0).mono fun e W' ⟨he, bel⟩ => ?_
  subst he
  exact ⟨_, rfl, _, _, _, [], _, [], hW', trodAll_mk1 (shut_bool Try.underlying4 _), (trodAll_cons_mk (Below.trod laid_out (by kernel_rfl) (of_decide_eq_true (by kernel_rfl)) k0 bel lt0) trodAll_mk0), rfl, bel.frame _, fun h => by cases h⟩

theorem FnRecvPut_holds : Rows.FnRecvPutSaid :=
  OpenClaim.holds_of_wide 4 Try.f4 rfl rfl rfl rfl rfl rfl rfl ⟨rfl, rfl, rfl, rfl, rfl⟩ rfl rfl rfl rfl rfl (by kernel_rfl) Try.func4 (by kernel_rfl)
    (of_decide_eq_true (by kernel_rfl)) (by unfold Func.isWrapper; first | (rw [if_pos (by decide +kernel)]; kernel_rfl) | (rw [if_neg (by decide +kernel)]; exact ⟨rfl, rfl⟩))
    (fun os started H enc _ => FnRecvPut_lifted os started H enc)
end Go.Proofs.Ytmmdbbnmifpciaa
