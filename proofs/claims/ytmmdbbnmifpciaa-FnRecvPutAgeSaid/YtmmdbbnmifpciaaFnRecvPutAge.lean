/- FnRecvPutAge: A byte that comes sets the age to nothing. No conditions beyond the statement's own. -/
import Derived.Test.YtmmdbbnmifpciaaRecvLaw
namespace Go.Proofs.Ytmmdbbnmifpciaa
open Go.ChangeShapes Go.WideShapes Go.ChangeAt Go.RowKit

set_option maxHeartbeats 4000000 in
set_option maxRecDepth 100000 in
theorem FnRecvPutAge_walk (a0 : Option Addr) (z0 : List Int) (cap0 : Nat) (w : World) (rz0 : Bytes w a0 z0) (lc0 : z0.length ≤ cap0) (_lm0 : cap0 ≤ maxLen) :
    Calls Try.prog 5 #[.slice a0 z0.length cap0] w fun e w' => e = .returned (.bool true) ∧ Below w.heap.size w w' := by
  unfold maxLen at _lm0
  by_cases hn0 : (z0.length : Int) ≤ 1048576
  case neg =>
    have hn0' : (1048576 : Int) < (z0.length : Int) := by omega
    go_enter Try.func5, Try.ntmps5
    go_wp2
    go_ret
    exact ⟨rfl, Below.refl _ _⟩
  go_enter Try.func5, Try.ntmps5
  have B1 : Below w.heap.size w w := Below.refl _ _
  go_wp2_with fail
  refine (drawRecvPut_any a0 z0 cap0 w rz0 lc0 (by omega)).mono ?_
  rintro e w2 ⟨r, t, a, xs, c, l, ag, gb, gc, rfl, lx, ox, b3⟩
  have zw2 := b3.size
  have B4 := B1.trans (b3.mono B1.size)
  clear B1
  have ix : Gts w2 a xs := own_cells ox
  have HC := Lib.hid (own_nilcap ox)
  clear ox
  have HI := Lib.hid (fun v h => implRecvPut_any r t a xs c l ag gb gc v h (by omega))
  have HJ := Lib.hid (fun v h => specRecvPut_any r t a xs c l ag gb gc v h (by omega) HC.out)
  cases hB : rputB r t xs ag ⟨gb, gc⟩
  · rw [rputR_no hB] at HI HJ
    go_wp2_with fail
    refine name_calls fun W5 hW5 => ?_
    have zW5 : W5.heap.size = w2.heap.size + 2 := by rw [hW5]; simp
    have H60 := (box_alloc (heap_new_at w2 (.cells #[.int .i64 r, .int .i64 t, .slice a xs.length c, .bool l, .int .i64 ag] 25 (0, 0)) (w2.heap.size) (by simp)) (.cells #[.int .i64 gb, .int .i64 gc] 33 (0, 0)))
    rw [← hW5] at H60
    have H6 := Lib.hid H60
    clear H60
    have H70 := (heap_new_at (w2.alloc (.cells #[.int .i64 r, .int .i64 t, .slice a xs.length c, .bool l, .int .i64 ag] 25 (0, 0))) (.cells #[.int .i64 gb, .int .i64 gc] 33 (0, 0)) (w2.heap.size + 1) (by simp))
    rw [← hW5] at H70
    have H7 := Lib.hid H70
    clear H70
    have B8 := (below_alloc3 (below_alloc3 B4 (.cells #[.int .i64 r, .int .i64 t, .slice a xs.length c, .bool l, .int .i64 ag] 25 (0, 0))) (.cells #[.int .i64 gb, .int .i64 gc] 33 (0, 0)))
    rw [← hW5] at B8
    clear B4
    replace ix := (Gts.keep (Gts.keep ix (Keeps.alloc _ (.cells #[.int .i64 r, .int .i64 t, .slice a xs.length c, .bool l, .int .i64 ag] 25 (0, 0)))) (Keeps.alloc _ (.cells #[.int .i64 gb, .int .i64 gc] 33 (0, 0))))
    rw [← hW5] at ix
    clear hW5
    refine (HI.out W5 ix).mono ?_
    rintro e w9 ⟨a1, c1, rfl, o1, b10⟩
    have zw9 := b10.size
    have B11 := B8.trans (b10.mono B8.size)
    clear B8
    replace H6 := Lib.hid ((b10.block _ (Array.getElem?_eq_some_iff.1 H6.out).1).trans H6.out)
    replace H7 := Lib.hid ((b10.block _ (Array.getElem?_eq_some_iff.1 H7.out).1).trans H7.out)
    replace ix := Gts.below ix b10
    have i1 : Gts w9 a1 [] := own_cells o1
    have hcap1 := own_cap o1
    clear o1
    obtain ⟨cc12, cc13, cc14, cc15, cc16⟩ := cells5 H6.out
    have ll17 := (Array.getElem?_eq_some_iff.1 H6.out).1
    obtain ⟨cc18, cc19⟩ := cells2 H7.out
    have ll20 := (Array.getElem?_eq_some_iff.1 H7.out).1
    go_wp2_with fail
    clear cc12 cc13 cc14 cc15 cc16 ll17 cc18 cc19 ll20
    refine name_calls fun W21 hW21 => ?_
    have zW21 : W21.heap.size = w9.heap.size + 1 := by rw [hW21]; simp
    have H220 := (heap_new_at w9 (.cells #[.int .i64 0, .int .i64 0, .slice a1 0 c1, .bool false, .int .i64 0] 25 (0, 0)) (w9.heap.size) (by simp))
    rw [← hW21] at H220
    have H22 := Lib.hid H220
    clear H220
    have B23 := (below_alloc3 B11 (.cells #[.int .i64 0, .int .i64 0, .slice a1 0 c1, .bool false, .int .i64 0] 25 (0, 0)))
    rw [← hW21] at B23
    clear B11
    have H60 := (box_alloc H6.out (.cells #[.int .i64 0, .int .i64 0, .slice a1 0 c1, .bool false, .int .i64 0] 25 (0, 0)))
    rw [← hW21] at H60
    clear H6
    have H6 := Lib.hid H60
    clear H60
    have H70 := (box_alloc H7.out (.cells #[.int .i64 0, .int .i64 0, .slice a1 0 c1, .bool false, .int .i64 0] 25 (0, 0)))
    rw [← hW21] at H70
    clear H7
    have H7 := Lib.hid H70
    clear H70
    replace ix := (Gts.keep ix (Keeps.alloc _ (.cells #[.int .i64 0, .int .i64 0, .slice a1 0 c1, .bool false, .int .i64 0] 25 (0, 0))))
    rw [← hW21] at ix
    replace i1 := (Gts.keep i1 (Keeps.alloc _ (.cells #[.int .i64 0, .int .i64 0, .slice a1 0 c1, .bool false, .int .i64 0] 25 (0, 0))))
    rw [← hW21] at i1
    clear hW21
    refine (HJ.out W21 ix).mono ?_
    rintro e w24 ⟨a3, c3, rfl, o3, b25⟩
    have zw24 := b25.size
    have B26 := B23.trans (b25.mono B23.size)
    clear B23
    replace H6 := Lib.hid ((b25.block _ (Array.getElem?_eq_some_iff.1 H6.out).1).trans H6.out)
    replace H7 := Lib.hid ((b25.block _ (Array.getElem?_eq_some_iff.1 H7.out).1).trans H7.out)
    replace H22 := Lib.hid ((b25.block _ (Array.getElem?_eq_some_iff.1 H22.out).1).trans H22.out)
    replace ix := Gts.below ix b25
    replace i1 := Gts.below i1 b25
    have i3 : Gts w24 a3 [] := own_cells o3
    clear o3
    obtain ⟨cc27, cc28, cc29, cc30, cc31⟩ := cells5 H22.out
    have ll32 := (Array.getElem?_eq_some_iff.1 H22.out).1
    obtain ⟨cc33, cc34, cc35, cc36, cc37⟩ := cells5 H6.out
    have ll38 := (Array.getElem?_eq_some_iff.1 H6.out).1
    go_wp2_with fail
    clear cc27 cc28 cc29 cc30 cc31 ll32 cc33 cc34 cc35 cc36 cc37 ll38
    refine name_calls fun W39 hW39 => ?_
    have zW39 : W39.heap.size = w24.heap.size + 1 := by rw [hW39]; simp
    have H400 := (heap_new_at w24 (.cells #[.int .i64 0, .int .i64 0, .slice a3 0 c3, .bool false, .int .i64 0] 25 (0, 0)) (w24.heap.size) (by simp))
    rw [← hW39] at H400
    have H40 := Lib.hid H400
    clear H400
    have B41 := (below_alloc3 B26 (.cells #[.int .i64 0, .int .i64 0, .slice a3 0 c3, .bool false, .int .i64 0] 25 (0, 0)))
    rw [← hW39] at B41
    clear B26
    have H60 := (box_alloc H6.out (.cells #[.int .i64 0, .int .i64 0, .slice a3 0 c3, .bool false, .int .i64 0] 25 (0, 0)))
    rw [← hW39] at H60
    clear H6
    have H6 := Lib.hid H60
    clear H60
    have H70 := (box_alloc H7.out (.cells #[.int .i64 0, .int .i64 0, .slice a3 0 c3, .bool false, .int .i64 0] 25 (0, 0)))
    rw [← hW39] at H70
    clear H7
    have H7 := Lib.hid H70
    clear H70
    have H220 := (box_alloc H22.out (.cells #[.int .i64 0, .int .i64 0, .slice a3 0 c3, .bool false, .int .i64 0] 25 (0, 0)))
    rw [← hW39] at H220
    clear H22
    have H22 := Lib.hid H220
    clear H220
    replace ix := (Gts.keep ix (Keeps.alloc _ (.cells #[.int .i64 0, .int .i64 0, .slice a3 0 c3, .bool false, .int .i64 0] 25 (0, 0))))
    rw [← hW39] at ix
    replace i1 := (Gts.keep i1 (Keeps.alloc _ (.cells #[.int .i64 0, .int .i64 0, .slice a3 0 c3, .bool false, .int .i64 0] 25 (0, 0))))
    rw [← hW39] at i1
    replace i3 := (Gts.keep i3 (Keeps.alloc _ (.cells #[.int .i64 0, .int .i64 0, .slice a3 0 c3, .bool false, .int .i64 0] 25 (0, 0))))
    rw [← hW39] at i3
    clear hW39
    refine (sameRecv_any 0 0 false 0 0 0 false 0 a1 a3 [] [] c1 c3 W39 i1 i3 (by simp) (by simp)).mono ?_
    rintro e w42 ⟨rfl, b43⟩
    have zw42 := b43.size
    have B44 := B41.trans (b43.mono B41.size)
    clear B41
    replace H6 := Lib.hid ((b43.block _ (Array.getElem?_eq_some_iff.1 H6.out).1).trans H6.out)
    replace H7 := Lib.hid ((b43.block _ (Array.getElem?_eq_some_iff.1 H7.out).1).trans H7.out)
    replace H22 := Lib.hid ((b43.block _ (Array.getElem?_eq_some_iff.1 H22.out).1).trans H22.out)
    replace H40 := Lib.hid ((b43.block _ (Array.getElem?_eq_some_iff.1 H40.out).1).trans H40.out)
    replace ix := Gts.below ix b43
    replace i1 := Gts.below i1 b43
    replace i3 := Gts.below i3 b43
    obtain ⟨cc45, cc46, cc47, cc48, cc49⟩ := cells5 H22.out
    have ll50 := (Array.getElem?_eq_some_iff.1 H22.out).1
    obtain ⟨cc51, cc52, cc53, cc54, cc55⟩ := cells5 H40.out
    have ll56 := (Array.getElem?_eq_some_iff.1 H40.out).1
    obtain ⟨cc57, cc58, cc59, cc60, cc61⟩ := cells5 H6.out
    have ll62 := (Array.getElem?_eq_some_iff.1 H6.out).1
    go_wp2_with fail
    clear cc45 cc46 cc47 cc48 cc49 ll50 cc51 cc52 cc53 cc54 cc55 ll56 cc57 cc58 cc59 cc60 cc61 ll62
    refine (sameRecv_any 0 0 false 0 0 0 false 0 a1 a3 [] [] c1 c3 w42 i1 i3 (by simp) (by simp)).mono ?_
    rintro e w63 ⟨rfl, b64⟩
    have zw63 := b64.size
    have B65 := B44.trans (b64.mono B44.size)
    clear B44
    replace H6 := Lib.hid ((b64.block _ (Array.getElem?_eq_some_iff.1 H6.out).1).trans H6.out)
    replace H7 := Lib.hid ((b64.block _ (Array.getElem?_eq_some_iff.1 H7.out).1).trans H7.out)
    replace H22 := Lib.hid ((b64.block _ (Array.getElem?_eq_some_iff.1 H22.out).1).trans H22.out)
    replace H40 := Lib.hid ((b64.block _ (Array.getElem?_eq_some_iff.1 H40.out).1).trans H40.out)
    replace ix := Gts.below ix b64
    replace i1 := Gts.below i1 b64
    replace i3 := Gts.below i3 b64
    go_wp2
    go_ret
    exact ⟨rfl, B65⟩
  · by_cases hl : (xs.length : Int) < r
    · have hR := rputR_yes (l := l) hB hl
      have hff := recvB_facts (rputB_recv hB)
      have hr16 := hff.1.2
      clear hff
      have HS := Lib.hid (recvB_put hB hl)
      obtain ⟨L, hL⟩ : ∃ L, L = xs ++ [(⟨gb, gc⟩ : Gt)] := ⟨_, rfl⟩
      rw [← hL] at hR HS
      rw [hR] at HI HJ
      have hLn : L.length = xs.length + 1 := by rw [hL]; simp
      have hLx : L[xs.length]? = some ⟨gb, gc⟩ := by rw [hL]; simp
      have hLt : L.take xs.length = xs := by rw [hL]; simp
      have hL17 : L.length ≤ 17 := by omega
      have HLx := Lib.hid hLx
      have HLt := Lib.hid hLt
      have HLn := Lib.hid hLn
      have hlb : ((xs.length : Int) == r) = false := beq_eq_false_iff_ne.2 (by omega)
      clear hL hR hLx hLt hLn hl hB
      go_wp2_with fail
      refine name_calls fun W66 hW66 => ?_
      have zW66 : W66.heap.size = w2.heap.size + 2 := by rw [hW66]; simp
      have H670 := (box_alloc (heap_new_at w2 (.cells #[.int .i64 r, .int .i64 t, .slice a xs.length c, .bool l, .int .i64 ag] 25 (0, 0)) (w2.heap.size) (by simp)) (.cells #[.int .i64 gb, .int .i64 gc] 33 (0, 0)))
      rw [← hW66] at H670
      have H67 := Lib.hid H670
      clear H670
      have H680 := (heap_new_at (w2.alloc (.cells #[.int .i64 r, .int .i64 t, .slice a xs.length c, .bool l, .int .i64 ag] 25 (0, 0))) (.cells #[.int .i64 gb, .int .i64 gc] 33 (0, 0)) (w2.heap.size + 1) (by simp))
      rw [← hW66] at H680
      have H68 := Lib.hid H680
      clear H680
      have B69 := (below_alloc3 (below_alloc3 B4 (.cells #[.int .i64 r, .int .i64 t, .slice a xs.length c, .bool l, .int .i64 ag] 25 (0, 0))) (.cells #[.int .i64 gb, .int .i64 gc] 33 (0, 0)))
      rw [← hW66] at B69
      clear B4
      replace ix := (Gts.keep (Gts.keep ix (Keeps.alloc _ (.cells #[.int .i64 r, .int .i64 t, .slice a xs.length c, .bool l, .int .i64 ag] 25 (0, 0)))) (Keeps.alloc _ (.cells #[.int .i64 gb, .int .i64 gc] 33 (0, 0))))
      rw [← hW66] at ix
      clear hW66
      refine (HI.out W66 ix).mono ?_
      rintro e w70 ⟨a1, c1, rfl, o1, b71⟩
      have zw70 := b71.size
      have B72 := B69.trans (b71.mono B69.size)
      clear B69
      replace H67 := Lib.hid ((b71.block _ (Array.getElem?_eq_some_iff.1 H67.out).1).trans H67.out)
      replace H68 := Lib.hid ((b71.block _ (Array.getElem?_eq_some_iff.1 H68.out).1).trans H68.out)
      replace ix := Gts.below ix b71
      have i1 : Gts w70 a1 L := own_cells o1
      have hcap1 := own_cap o1
      clear o1
      obtain ⟨cc73, cc74, cc75, cc76, cc77⟩ := cells5 H67.out
      have ll78 := (Array.getElem?_eq_some_iff.1 H67.out).1
      obtain ⟨cc79, cc80⟩ := cells2 H68.out
      have ll81 := (Array.getElem?_eq_some_iff.1 H68.out).1
      go_wp2_with fail
      clear cc73 cc74 cc75 cc76 cc77 ll78 cc79 cc80 ll81
      refine name_calls fun W82 hW82 => ?_
      have zW82 : W82.heap.size = w70.heap.size + 1 := by rw [hW82]; simp
      have H830 := (heap_new_at w70 (.cells #[.int .i64 r, .int .i64 t, .slice a1 L.length c1, .bool l, .int .i64 0] 25 (0, 0)) (w70.heap.size) (by simp))
      rw [← hW82] at H830
      have H83 := Lib.hid H830
      clear H830
      have B84 := (below_alloc3 B72 (.cells #[.int .i64 r, .int .i64 t, .slice a1 L.length c1, .bool l, .int .i64 0] 25 (0, 0)))
      rw [← hW82] at B84
      clear B72
      have H670 := (box_alloc H67.out (.cells #[.int .i64 r, .int .i64 t, .slice a1 L.length c1, .bool l, .int .i64 0] 25 (0, 0)))
      rw [← hW82] at H670
      clear H67
      have H67 := Lib.hid H670
      clear H670
      have H680 := (box_alloc H68.out (.cells #[.int .i64 r, .int .i64 t, .slice a1 L.length c1, .bool l, .int .i64 0] 25 (0, 0)))
      rw [← hW82] at H680
      clear H68
      have H68 := Lib.hid H680
      clear H680
      replace ix := (Gts.keep ix (Keeps.alloc _ (.cells #[.int .i64 r, .int .i64 t, .slice a1 L.length c1, .bool l, .int .i64 0] 25 (0, 0))))
      rw [← hW82] at ix
      replace i1 := (Gts.keep i1 (Keeps.alloc _ (.cells #[.int .i64 r, .int .i64 t, .slice a1 L.length c1, .bool l, .int .i64 0] 25 (0, 0))))
      rw [← hW82] at i1
      clear hW82
      refine (HJ.out W82 ix).mono ?_
      rintro e w85 ⟨a3, c3, rfl, o3, b86⟩
      have zw85 := b86.size
      have B87 := B84.trans (b86.mono B84.size)
      clear B84
      replace H67 := Lib.hid ((b86.block _ (Array.getElem?_eq_some_iff.1 H67.out).1).trans H67.out)
      replace H68 := Lib.hid ((b86.block _ (Array.getElem?_eq_some_iff.1 H68.out).1).trans H68.out)
      replace H83 := Lib.hid ((b86.block _ (Array.getElem?_eq_some_iff.1 H83.out).1).trans H83.out)
      replace ix := Gts.below ix b86
      replace i1 := Gts.below i1 b86
      have i3 : Gts w85 a3 L := own_cells o3
      clear o3
      obtain ⟨cc88, cc89, cc90, cc91, cc92⟩ := cells5 H83.out
      have ll93 := (Array.getElem?_eq_some_iff.1 H83.out).1
      obtain ⟨cc94, cc95, cc96, cc97, cc98⟩ := cells5 H67.out
      have ll99 := (Array.getElem?_eq_some_iff.1 H67.out).1
      go_wp2_with fail
      clear cc88 cc89 cc90 cc91 cc92 ll93 cc94 cc95 cc96 cc97 cc98 ll99
      refine name_calls fun W100 hW100 => ?_
      have zW100 : W100.heap.size = w85.heap.size + 1 := by rw [hW100]; simp
      have H1010 := (heap_new_at w85 (.cells #[.int .i64 r, .int .i64 t, .slice a3 L.length c3, .bool l, .int .i64 0] 25 (0, 0)) (w85.heap.size) (by simp))
      rw [← hW100] at H1010
      have H101 := Lib.hid H1010
      clear H1010
      have B102 := (below_alloc3 B87 (.cells #[.int .i64 r, .int .i64 t, .slice a3 L.length c3, .bool l, .int .i64 0] 25 (0, 0)))
      rw [← hW100] at B102
      clear B87
      have H670 := (box_alloc H67.out (.cells #[.int .i64 r, .int .i64 t, .slice a3 L.length c3, .bool l, .int .i64 0] 25 (0, 0)))
      rw [← hW100] at H670
      clear H67
      have H67 := Lib.hid H670
      clear H670
      have H680 := (box_alloc H68.out (.cells #[.int .i64 r, .int .i64 t, .slice a3 L.length c3, .bool l, .int .i64 0] 25 (0, 0)))
      rw [← hW100] at H680
      clear H68
      have H68 := Lib.hid H680
      clear H680
      have H830 := (box_alloc H83.out (.cells #[.int .i64 r, .int .i64 t, .slice a3 L.length c3, .bool l, .int .i64 0] 25 (0, 0)))
      rw [← hW100] at H830
      clear H83
      have H83 := Lib.hid H830
      clear H830
      replace ix := (Gts.keep ix (Keeps.alloc _ (.cells #[.int .i64 r, .int .i64 t, .slice a3 L.length c3, .bool l, .int .i64 0] 25 (0, 0))))
      rw [← hW100] at ix
      replace i1 := (Gts.keep i1 (Keeps.alloc _ (.cells #[.int .i64 r, .int .i64 t, .slice a3 L.length c3, .bool l, .int .i64 0] 25 (0, 0))))
      rw [← hW100] at i1
      replace i3 := (Gts.keep i3 (Keeps.alloc _ (.cells #[.int .i64 r, .int .i64 t, .slice a3 L.length c3, .bool l, .int .i64 0] 25 (0, 0))))
      rw [← hW100] at i3
      clear hW100
      refine (sameRecv_any r t l 0 r t l 0 a1 a3 L L c1 c3 W100 i1 i3 (by omega) (by omega)).mono ?_
      rintro e w103 ⟨rfl, b104⟩
      have zw103 := b104.size
      have B105 := B102.trans (b104.mono B102.size)
      clear B102
      replace H67 := Lib.hid ((b104.block _ (Array.getElem?_eq_some_iff.1 H67.out).1).trans H67.out)
      replace H68 := Lib.hid ((b104.block _ (Array.getElem?_eq_some_iff.1 H68.out).1).trans H68.out)
      replace H83 := Lib.hid ((b104.block _ (Array.getElem?_eq_some_iff.1 H83.out).1).trans H83.out)
      replace H101 := Lib.hid ((b104.block _ (Array.getElem?_eq_some_iff.1 H101.out).1).trans H101.out)
      replace ix := Gts.below ix b104
      replace i1 := Gts.below i1 b104
      replace i3 := Gts.below i3 b104
      have HF := Lib.hid (fun v a1 c1 (h : Gts v a1 L) => implRecvValid_any r t a1 L c1 l 0 v h (by omega))
      rw [HS.out] at HF
      obtain ⟨cc106, cc107, cc108, cc109, cc110⟩ := cells5 H83.out
      have ll111 := (Array.getElem?_eq_some_iff.1 H83.out).1
      obtain ⟨cc112, cc113, cc114, cc115, cc116⟩ := cells5 H67.out
      have ll117 := (Array.getElem?_eq_some_iff.1 H67.out).1
      go_wp2_with fail
      clear cc106 cc107 cc108 cc109 cc110 ll111 cc112 cc113 cc114 cc115 cc116 ll117
      refine (HF.out w103 a1 c1 i1).mono ?_
      rintro e w118 ⟨rfl, b119⟩
      have zw118 := b119.size
      have B120 := B105.trans (b119.mono B105.size)
      clear B105
      replace H67 := Lib.hid ((b119.block _ (Array.getElem?_eq_some_iff.1 H67.out).1).trans H67.out)
      replace H68 := Lib.hid ((b119.block _ (Array.getElem?_eq_some_iff.1 H68.out).1).trans H68.out)
      replace H83 := Lib.hid ((b119.block _ (Array.getElem?_eq_some_iff.1 H83.out).1).trans H83.out)
      replace H101 := Lib.hid ((b119.block _ (Array.getElem?_eq_some_iff.1 H101.out).1).trans H101.out)
      replace ix := Gts.below ix b119
      replace i1 := Gts.below i1 b119
      replace i3 := Gts.below i3 b119
      obtain ⟨cc121, cc122, cc123, cc124, cc125⟩ := cells5 H83.out
      have ll126 := (Array.getElem?_eq_some_iff.1 H83.out).1
      obtain ⟨cc127, cc128, cc129, cc130, cc131⟩ := cells5 H67.out
      have ll132 := (Array.getElem?_eq_some_iff.1 H67.out).1
      go_wp2
      go_ret
      exact ⟨rfl, B120⟩
    · have hR := rputR_full (l := l) hB hl
      have hff := recvB_facts (rputB_recv hB)
      have hlb : ((xs.length : Int) == r) = true := beq_iff_eq.2 (by omega)
      clear hff
      have HS := Lib.hid (recvB_full hB)
      rw [hR] at HI HJ
      clear hR hl hB
      go_wp2_with fail
      refine name_calls fun W133 hW133 => ?_
      have zW133 : W133.heap.size = w2.heap.size + 2 := by rw [hW133]; simp
      have H1340 := (box_alloc (heap_new_at w2 (.cells #[.int .i64 r, .int .i64 t, .slice a xs.length c, .bool l, .int .i64 ag] 25 (0, 0)) (w2.heap.size) (by simp)) (.cells #[.int .i64 gb, .int .i64 gc] 33 (0, 0)))
      rw [← hW133] at H1340
      have H134 := Lib.hid H1340
      clear H1340
      have H1350 := (heap_new_at (w2.alloc (.cells #[.int .i64 r, .int .i64 t, .slice a xs.length c, .bool l, .int .i64 ag] 25 (0, 0))) (.cells #[.int .i64 gb, .int .i64 gc] 33 (0, 0)) (w2.heap.size + 1) (by simp))
      rw [← hW133] at H1350
      have H135 := Lib.hid H1350
      clear H1350
      have B136 := (below_alloc3 (below_alloc3 B4 (.cells #[.int .i64 r, .int .i64 t, .slice a xs.length c, .bool l, .int .i64 ag] 25 (0, 0))) (.cells #[.int .i64 gb, .int .i64 gc] 33 (0, 0)))
      rw [← hW133] at B136
      clear B4
      replace ix := (Gts.keep (Gts.keep ix (Keeps.alloc _ (.cells #[.int .i64 r, .int .i64 t, .slice a xs.length c, .bool l, .int .i64 ag] 25 (0, 0)))) (Keeps.alloc _ (.cells #[.int .i64 gb, .int .i64 gc] 33 (0, 0))))
      rw [← hW133] at ix
      clear hW133
      refine (HI.out W133 ix).mono ?_
      rintro e w137 ⟨a1, c1, rfl, o1, b138⟩
      have zw137 := b138.size
      have B139 := B136.trans (b138.mono B136.size)
      clear B136
      replace H134 := Lib.hid ((b138.block _ (Array.getElem?_eq_some_iff.1 H134.out).1).trans H134.out)
      replace H135 := Lib.hid ((b138.block _ (Array.getElem?_eq_some_iff.1 H135.out).1).trans H135.out)
      replace ix := Gts.below ix b138
      have i1 : Gts w137 a1 xs := own_cells o1
      have hcap1 := own_cap o1
      clear o1
      obtain ⟨cc140, cc141, cc142, cc143, cc144⟩ := cells5 H134.out
      have ll145 := (Array.getElem?_eq_some_iff.1 H134.out).1
      obtain ⟨cc146, cc147⟩ := cells2 H135.out
      have ll148 := (Array.getElem?_eq_some_iff.1 H135.out).1
      go_wp2_with fail
      clear cc140 cc141 cc142 cc143 cc144 ll145 cc146 cc147 ll148
      refine name_calls fun W149 hW149 => ?_
      have zW149 : W149.heap.size = w137.heap.size + 1 := by rw [hW149]; simp
      have H1500 := (heap_new_at w137 (.cells #[.int .i64 r, .int .i64 t, .slice a1 xs.length c1, .bool true, .int .i64 0] 25 (0, 0)) (w137.heap.size) (by simp))
      rw [← hW149] at H1500
      have H150 := Lib.hid H1500
      clear H1500
      have B151 := (below_alloc3 B139 (.cells #[.int .i64 r, .int .i64 t, .slice a1 xs.length c1, .bool true, .int .i64 0] 25 (0, 0)))
      rw [← hW149] at B151
      clear B139
      have H1340 := (box_alloc H134.out (.cells #[.int .i64 r, .int .i64 t, .slice a1 xs.length c1, .bool true, .int .i64 0] 25 (0, 0)))
      rw [← hW149] at H1340
      clear H134
      have H134 := Lib.hid H1340
      clear H1340
      have H1350 := (box_alloc H135.out (.cells #[.int .i64 r, .int .i64 t, .slice a1 xs.length c1, .bool true, .int .i64 0] 25 (0, 0)))
      rw [← hW149] at H1350
      clear H135
      have H135 := Lib.hid H1350
      clear H1350
      replace ix := (Gts.keep ix (Keeps.alloc _ (.cells #[.int .i64 r, .int .i64 t, .slice a1 xs.length c1, .bool true, .int .i64 0] 25 (0, 0))))
      rw [← hW149] at ix
      replace i1 := (Gts.keep i1 (Keeps.alloc _ (.cells #[.int .i64 r, .int .i64 t, .slice a1 xs.length c1, .bool true, .int .i64 0] 25 (0, 0))))
      rw [← hW149] at i1
      clear hW149
      refine (HJ.out W149 ix).mono ?_
      rintro e w152 ⟨a3, c3, rfl, o3, b153⟩
      have zw152 := b153.size
      have B154 := B151.trans (b153.mono B151.size)
      clear B151
      replace H134 := Lib.hid ((b153.block _ (Array.getElem?_eq_some_iff.1 H134.out).1).trans H134.out)
      replace H135 := Lib.hid ((b153.block _ (Array.getElem?_eq_some_iff.1 H135.out).1).trans H135.out)
      replace H150 := Lib.hid ((b153.block _ (Array.getElem?_eq_some_iff.1 H150.out).1).trans H150.out)
      replace ix := Gts.below ix b153
      replace i1 := Gts.below i1 b153
      have i3 : Gts w152 a3 xs := own_cells o3
      clear o3
      obtain ⟨cc155, cc156, cc157, cc158, cc159⟩ := cells5 H150.out
      have ll160 := (Array.getElem?_eq_some_iff.1 H150.out).1
      obtain ⟨cc161, cc162, cc163, cc164, cc165⟩ := cells5 H134.out
      have ll166 := (Array.getElem?_eq_some_iff.1 H134.out).1
      go_wp2_with fail
      clear cc155 cc156 cc157 cc158 cc159 ll160 cc161 cc162 cc163 cc164 cc165 ll166
      refine name_calls fun W167 hW167 => ?_
      have zW167 : W167.heap.size = w152.heap.size + 1 := by rw [hW167]; simp
      have H1680 := (heap_new_at w152 (.cells #[.int .i64 r, .int .i64 t, .slice a3 xs.length c3, .bool true, .int .i64 0] 25 (0, 0)) (w152.heap.size) (by simp))
      rw [← hW167] at H1680
      have H168 := Lib.hid H1680
      clear H1680
      have B169 := (below_alloc3 B154 (.cells #[.int .i64 r, .int .i64 t, .slice a3 xs.length c3, .bool true, .int .i64 0] 25 (0, 0)))
      rw [← hW167] at B169
      clear B154
      have H1340 := (box_alloc H134.out (.cells #[.int .i64 r, .int .i64 t, .slice a3 xs.length c3, .bool true, .int .i64 0] 25 (0, 0)))
      rw [← hW167] at H1340
      clear H134
      have H134 := Lib.hid H1340
      clear H1340
      have H1350 := (box_alloc H135.out (.cells #[.int .i64 r, .int .i64 t, .slice a3 xs.length c3, .bool true, .int .i64 0] 25 (0, 0)))
      rw [← hW167] at H1350
      clear H135
      have H135 := Lib.hid H1350
      clear H1350
      have H1500 := (box_alloc H150.out (.cells #[.int .i64 r, .int .i64 t, .slice a3 xs.length c3, .bool true, .int .i64 0] 25 (0, 0)))
      rw [← hW167] at H1500
      clear H150
      have H150 := Lib.hid H1500
      clear H1500
      replace ix := (Gts.keep ix (Keeps.alloc _ (.cells #[.int .i64 r, .int .i64 t, .slice a3 xs.length c3, .bool true, .int .i64 0] 25 (0, 0))))
      rw [← hW167] at ix
      replace i1 := (Gts.keep i1 (Keeps.alloc _ (.cells #[.int .i64 r, .int .i64 t, .slice a3 xs.length c3, .bool true, .int .i64 0] 25 (0, 0))))
      rw [← hW167] at i1
      replace i3 := (Gts.keep i3 (Keeps.alloc _ (.cells #[.int .i64 r, .int .i64 t, .slice a3 xs.length c3, .bool true, .int .i64 0] 25 (0, 0))))
      rw [← hW167] at i3
      clear hW167
      refine (sameRecv_any r t true 0 r t true 0 a1 a3 xs xs c1 c3 W167 i1 i3 (by omega) (by omega)).mono ?_
      rintro e w170 ⟨rfl, b171⟩
      have zw170 := b171.size
      have B172 := B169.trans (b171.mono B169.size)
      clear B169
      replace H134 := Lib.hid ((b171.block _ (Array.getElem?_eq_some_iff.1 H134.out).1).trans H134.out)
      replace H135 := Lib.hid ((b171.block _ (Array.getElem?_eq_some_iff.1 H135.out).1).trans H135.out)
      replace H150 := Lib.hid ((b171.block _ (Array.getElem?_eq_some_iff.1 H150.out).1).trans H150.out)
      replace H168 := Lib.hid ((b171.block _ (Array.getElem?_eq_some_iff.1 H168.out).1).trans H168.out)
      replace ix := Gts.below ix b171
      replace i1 := Gts.below i1 b171
      replace i3 := Gts.below i3 b171
      have HF := Lib.hid (fun v a1 c1 (h : Gts v a1 xs) => implRecvValid_any r t a1 xs c1 true 0 v h (by omega))
      rw [HS.out] at HF
      obtain ⟨cc173, cc174, cc175, cc176, cc177⟩ := cells5 H150.out
      have ll178 := (Array.getElem?_eq_some_iff.1 H150.out).1
      obtain ⟨cc179, cc180, cc181, cc182, cc183⟩ := cells5 H134.out
      have ll184 := (Array.getElem?_eq_some_iff.1 H134.out).1
      go_wp2_with fail
      clear cc173 cc174 cc175 cc176 cc177 ll178 cc179 cc180 cc181 cc182 cc183 ll184
      refine (HF.out w170 a1 c1 i1).mono ?_
      rintro e w185 ⟨rfl, b186⟩
      have zw185 := b186.size
      have B187 := B172.trans (b186.mono B172.size)
      clear B172
      replace H134 := Lib.hid ((b186.block _ (Array.getElem?_eq_some_iff.1 H134.out).1).trans H134.out)
      replace H135 := Lib.hid ((b186.block _ (Array.getElem?_eq_some_iff.1 H135.out).1).trans H135.out)
      replace H150 := Lib.hid ((b186.block _ (Array.getElem?_eq_some_iff.1 H150.out).1).trans H150.out)
      replace H168 := Lib.hid ((b186.block _ (Array.getElem?_eq_some_iff.1 H168.out).1).trans H168.out)
      replace ix := Gts.below ix b186
      replace i1 := Gts.below i1 b186
      replace i3 := Gts.below i3 b186
      obtain ⟨cc188, cc189, cc190, cc191, cc192⟩ := cells5 H150.out
      have ll193 := (Array.getElem?_eq_some_iff.1 H150.out).1
      obtain ⟨cc194, cc195, cc196, cc197, cc198⟩ := cells5 H134.out
      have ll199 := (Array.getElem?_eq_some_iff.1 H134.out).1
      go_wp2
      go_ret
      exact ⟨rfl, B187⟩

set_option linter.unusedVariables false in
set_option maxRecDepth 100000 in
theorem FnRecvPutAge_lifted (os : Os) (started : os.Started) (H : Type) (enc : TypeId × Value → H) :
    ReturnsInHanded {} Try.checked os 5 .any (Rows.fnRecvPutAgeSpec.pre6 enc Try.prog Try.f5 Rows.fnRecvPutAgeRow.domain false) (Rows.fnRecvPutAgeSpec.post enc Try.prog Try.f5 false true false false) := by
  refine returnsInHanded_of_change (C := Try.checked) own_knob started (by kernel_rfl) Try.func5
    (ChangeSpec.witness6 (enc := enc) (C := Try.checked) false ⟨#[], #[.slice none 0 0], []⟩ 8 (by kernel_rfl) (by kernel_rfl) (by kernel_rfl) (by kernel_rfl)) ?_
  intro W base args ds gs before hval0 hW hcnd _
  have hval : ∀ (j : Nat) t v, Try.f5.params[j]? = some t → args[j]? = some v → Value.okWide Try.prog W .any base t v := hval0
  have hW' := hW
  obtain ⟨p, q, hA0, hV, rfl, hfz, hnd⟩ := hW
  have hA : DataW.TrodAll enc Try.prog W 0 (fun _ => true) true Try.f5.params.toList args.toList ds p := hA0
  rw [Try.params5] at hA hval
  obtain ⟨v0, vs0, d0, ds0, p0, q0, hargs, rfl, rfl, h0, r0⟩ := trodAll_cons hA
  obtain ⟨rfl, rfl, rfl⟩ := trodAll_nil r0
  obtain rfl : args = #[v0] := by cases args; simp_all
  obtain ⟨rfl, rfl⟩ := trodVars_none hV
  have k0 := h0
  have lt0 : ∀ x ∈ p0, x.block < W.heap.size := by obtain ⟨m, hm⟩ := k0; exact DataW.trod_lt m _ _ _ hm
  obtain ⟨a0, len0, cap0, rfl⟩ := okWide_slice Try.underlying22 (hval 0 22 v0 rfl rfl)
  obtain ⟨z0, rfl, lc0, lm0, rz0⟩ : ∃ z : List Int, len0 = z.length ∧ z.length ≤ cap0 ∧ cap0 ≤ maxLen ∧ Bytes W a0 z := by
    obtain ⟨fuel, hf⟩ := h0
    obtain ⟨ao, cap, z, e, h1, h2, h3⟩ := rd_bytes hf
    simp [Value.cells] at e
    obtain ⟨rfl, rfl, rfl⟩ := e
    exact ⟨z, rfl, h1, h2, h3⟩
  have lb0 : z0.length ≤ cap0 := lc0
  clear hA0 hval0
  refine (FnRecvPutAge_walk a0 z0 cap0 W rz0 lc0 lm0).mono fun e W' ⟨he, bel⟩ => ?_
  subst he
  exact ⟨_, rfl, _, _, _, [], _, [], hW', trodAll_mk1 (shut_bool Try.underlying4 _), (trodAll_cons_mk (Below.trod laid_out (by kernel_rfl) (of_decide_eq_true (by kernel_rfl)) k0 bel lt0) trodAll_mk0), rfl, bel.frame _, fun h => by cases h⟩

theorem FnRecvPutAge_holds : Rows.FnRecvPutAgeSaid :=
  OpenClaim.holds_of_wide 5 Try.f5 rfl rfl rfl rfl rfl rfl rfl ⟨rfl, rfl, rfl, rfl, rfl⟩ rfl rfl rfl rfl rfl (by kernel_rfl) Try.func5 (by kernel_rfl)
    (of_decide_eq_true (by kernel_rfl)) (by unfold Func.isWrapper; first | (rw [if_pos (by decide +kernel)]; kernel_rfl) | (rw [if_neg (by decide +kernel)]; exact ⟨rfl, rfl⟩))
    (fun os started H enc _ => FnRecvPutAge_lifted os started H enc)
end Go.Proofs.Ytmmdbbnmifpciaa
