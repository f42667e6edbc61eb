/- FnTalkLateEnd: for every code, what the statement says of packets that are sent. No condition. -/
import Derived.Test.YtjamcfnclnpdkaaTalkLaw2
import Derived.Test.YtjamcfnclnpdkaaSaidB
namespace Go.Proofs.Ytjamcfnclnpdkaa
open Go.ChangeShapes Go.WideShapes Go.ChangeAt Go.RowKit

set_option maxHeartbeats 4000000 in
set_option maxRecDepth 100000 in
theorem FnTalkLateEnd_walk (a0 : Option Addr) (z0 : List Int) (cap0 : Nat) (w : World) (rz0 : Bytes w a0 z0) (lc0 : z0.length ≤ cap0) (_lm0 : cap0 ≤ maxLen) :
    Calls Try.prog 12 #[.slice a0 z0.length cap0] w fun e w' => e = .returned (.bool true) ∧ Below w.heap.size w w' := by
  unfold maxLen at _lm0
  by_cases hn0 : (z0.length : Int) ≤ 1048576
  case neg =>
    have hn0' : (1048576 : Int) < (z0.length : Int) := by omega
    go_enter Try.func12, Try.ntmps12
    go_wp2
    go_ret
    exact ⟨rfl, Below.refl _ _⟩
  go_enter Try.func12, Try.ntmps12
  have B1 : Below w.heap.size w w := Below.refl _ _
  go_wp2_with fail
  refine (drawTalkLate_any a0 z0 cap0 w rz0 lc0 (by omega)).mono ?_
  rintro e w2 ⟨n, t, a, xs, c, rfl, lx, ix, b3⟩
  have zw2 := b3.size
  have B4 := B1.trans (b3.mono B1.size)
  clear B1
  have HI := Lib.hid (fun v h => implTalkLate_any n t a xs c v h (by omega))
  have HJ := Lib.hid (fun v h => specTalkLate_any n t a xs c v h (by omega))
  rcases late_cases n t xs with hR | ⟨hv, t0, t5, hb, hR⟩
  · rw [hR] at HI HJ
    clear hR
    go_wp2_with fail
    refine name_calls fun W5 hW5 => ?_
    have zW5 : W5.heap.size = w2.heap.size + 1 := by rw [hW5]; simp
    have H60 := (heap_new_at w2 (.cells #[.int .i64 n, .int .i64 t, .slice a xs.length c] 25 (0, 0)) (w2.heap.size) (by simp))
    rw [← hW5] at H60
    have H6 := Lib.hid H60
    clear H60
    have B7 := (below_alloc3 B4 (.cells #[.int .i64 n, .int .i64 t, .slice a xs.length c] 25 (0, 0)))
    rw [← hW5] at B7
    clear B4
    replace ix := (Ints.keep ix (Keeps.alloc _ (.cells #[.int .i64 n, .int .i64 t, .slice a xs.length c] 25 (0, 0))))
    rw [← hW5] at ix
    clear hW5
    refine (HI.out W5 ix).mono ?_
    rintro e w8 ⟨⟨a1, c1, a2, c2, rfl, o1, o2, ap1⟩, b9⟩
    have zw8 := b9.size
    have B10 := B7.trans (b9.mono B7.size)
    clear B7
    replace H6 := Lib.hid ((b9.block _ (Array.getElem?_eq_some_iff.1 H6.out).1).trans H6.out)
    replace ix := Ints.below ix b9
    have i1 : Ints w8 a1 [] := own_cells o1
    have i2 : Ints w8 a2 [] := own_cells o2
    have hcap2 : ([] : List Int).length ≤ c2 := own_cap o2
    clear o1 o2 ap1
    obtain ⟨cc11, cc12, cc13⟩ := cells3 H6.out
    have ll14 := (Array.getElem?_eq_some_iff.1 H6.out).1
    go_wp2_with fail
    clear cc11 cc12 cc13 ll14
    refine name_calls fun W15 hW15 => ?_
    have zW15 : W15.heap.size = w8.heap.size + 1 := by rw [hW15]; simp
    have H160 := (heap_new_at w8 (.cells #[.int .i64 0, .int .i64 0, .slice a1 0 c1] 25 (0, 0)) (w8.heap.size) (by simp))
    rw [← hW15] at H160
    have H16 := Lib.hid H160
    clear H160
    have B17 := (below_alloc3 B10 (.cells #[.int .i64 0, .int .i64 0, .slice a1 0 c1] 25 (0, 0)))
    rw [← hW15] at B17
    clear B10
    have H60 := (box_alloc H6.out (.cells #[.int .i64 0, .int .i64 0, .slice a1 0 c1] 25 (0, 0)))
    rw [← hW15] at H60
    clear H6
    have H6 := Lib.hid H60
    clear H60
    replace ix := (Ints.keep ix (Keeps.alloc _ (.cells #[.int .i64 0, .int .i64 0, .slice a1 0 c1] 25 (0, 0))))
    rw [← hW15] at ix
    replace i1 := (Ints.keep i1 (Keeps.alloc _ (.cells #[.int .i64 0, .int .i64 0, .slice a1 0 c1] 25 (0, 0))))
    rw [← hW15] at i1
    replace i2 := (Ints.keep i2 (Keeps.alloc _ (.cells #[.int .i64 0, .int .i64 0, .slice a1 0 c1] 25 (0, 0))))
    rw [← hW15] at i2
    clear hW15
    refine (HJ.out W15 ix).mono ?_
    rintro e w18 ⟨⟨a3, c3, a4, c4, rfl, o3, o4, ap3⟩, b19⟩
    have zw18 := b19.size
    have B20 := B17.trans (b19.mono B17.size)
    clear B17
    replace H6 := Lib.hid ((b19.block _ (Array.getElem?_eq_some_iff.1 H6.out).1).trans H6.out)
    replace H16 := Lib.hid ((b19.block _ (Array.getElem?_eq_some_iff.1 H16.out).1).trans H16.out)
    replace ix := Ints.below ix b19
    replace i1 := Ints.below i1 b19
    replace i2 := Ints.below i2 b19
    have i3 : Ints w18 a3 [] := own_cells o3
    have i4 : Ints w18 a4 [] := own_cells o4
    clear o3 o4 ap3
    go_wp2_with fail
    refine name_calls fun W21 hW21 => ?_
    have zW21 : W21.heap.size = w18.heap.size + 1 := by rw [hW21]; simp
    have H220 := (heap_new_at w18 (.cells #[.int .i64 0, .int .i64 0, .slice a3 0 c3] 25 (0, 0)) (w18.heap.size) (by simp))
    rw [← hW21] at H220
    have H22 := Lib.hid H220
    clear H220
    have B23 := (below_alloc3 B20 (.cells #[.int .i64 0, .int .i64 0, .slice a3 0 c3] 25 (0, 0)))
    rw [← hW21] at B23
    clear B20
    have H60 := (box_alloc H6.out (.cells #[.int .i64 0, .int .i64 0, .slice a3 0 c3] 25 (0, 0)))
    rw [← hW21] at H60
    clear H6
    have H6 := Lib.hid H60
    clear H60
    have H160 := (box_alloc H16.out (.cells #[.int .i64 0, .int .i64 0, .slice a3 0 c3] 25 (0, 0)))
    rw [← hW21] at H160
    clear H16
    have H16 := Lib.hid H160
    clear H160
    replace ix := (Ints.keep ix (Keeps.alloc _ (.cells #[.int .i64 0, .int .i64 0, .slice a3 0 c3] 25 (0, 0))))
    rw [← hW21] at ix
    replace i1 := (Ints.keep i1 (Keeps.alloc _ (.cells #[.int .i64 0, .int .i64 0, .slice a3 0 c3] 25 (0, 0))))
    rw [← hW21] at i1
    replace i2 := (Ints.keep i2 (Keeps.alloc _ (.cells #[.int .i64 0, .int .i64 0, .slice a3 0 c3] 25 (0, 0))))
    rw [← hW21] at i2
    replace i3 := (Ints.keep i3 (Keeps.alloc _ (.cells #[.int .i64 0, .int .i64 0, .slice a3 0 c3] 25 (0, 0))))
    rw [← hW21] at i3
    replace i4 := (Ints.keep i4 (Keeps.alloc _ (.cells #[.int .i64 0, .int .i64 0, .slice a3 0 c3] 25 (0, 0))))
    rw [← hW21] at i4
    clear hW21
    refine (sameInts_below a2 a4 [] [] c2 c4 W21 i2 i4 (by first | omega | simp) (by first | omega | simp)).mono ?_
    rintro e w24 ⟨rfl, b25⟩
    have zw24 := b25.size
    have B26 := B23.trans (b25.mono B23.size)
    clear B23
    replace H6 := Lib.hid ((b25.block _ (Array.getElem?_eq_some_iff.1 H6.out).1).trans H6.out)
    replace H16 := Lib.hid ((b25.block _ (Array.getElem?_eq_some_iff.1 H16.out).1).trans H16.out)
    replace H22 := Lib.hid ((b25.block _ (Array.getElem?_eq_some_iff.1 H22.out).1).trans H22.out)
    replace ix := Ints.below ix b25
    replace i1 := Ints.below i1 b25
    replace i2 := Ints.below i2 b25
    replace i3 := Ints.below i3 b25
    replace i4 := Ints.below i4 b25
    obtain ⟨cc27, cc28, cc29⟩ := cells3 H16.out
    have ll30 := (Array.getElem?_eq_some_iff.1 H16.out).1
    obtain ⟨cc31, cc32, cc33⟩ := cells3 H22.out
    have ll34 := (Array.getElem?_eq_some_iff.1 H22.out).1
    go_wp2_with fail
    clear cc27 cc28 cc29 ll30 cc31 cc32 cc33 ll34
    refine (sameTalk_any 0 0 0 0 a1 a3 [] [] c1 c3 w24 i1 i3 (by first | omega | simp) (by first | omega | simp)).mono ?_
    rintro e w35 ⟨rfl, b36⟩
    have zw35 := b36.size
    have B37 := B26.trans (b36.mono B26.size)
    clear B26
    replace H6 := Lib.hid ((b36.block _ (Array.getElem?_eq_some_iff.1 H6.out).1).trans H6.out)
    replace H16 := Lib.hid ((b36.block _ (Array.getElem?_eq_some_iff.1 H16.out).1).trans H16.out)
    replace H22 := Lib.hid ((b36.block _ (Array.getElem?_eq_some_iff.1 H22.out).1).trans H22.out)
    replace ix := Ints.below ix b36
    replace i1 := Ints.below i1 b36
    replace i2 := Ints.below i2 b36
    replace i3 := Ints.below i3 b36
    replace i4 := Ints.below i4 b36
    go_wp2_with fail
    refine (sameInts_below a2 a4 [] [] c2 c4 w35 i2 i4 (by first | omega | simp) (by first | omega | simp)).mono ?_
    rintro e w38 ⟨rfl, b39⟩
    have zw38 := b39.size
    have B40 := B37.trans (b39.mono B37.size)
    clear B37
    replace H6 := Lib.hid ((b39.block _ (Array.getElem?_eq_some_iff.1 H6.out).1).trans H6.out)
    replace H16 := Lib.hid ((b39.block _ (Array.getElem?_eq_some_iff.1 H16.out).1).trans H16.out)
    replace H22 := Lib.hid ((b39.block _ (Array.getElem?_eq_some_iff.1 H22.out).1).trans H22.out)
    replace ix := Ints.below ix b39
    replace i1 := Ints.below i1 b39
    replace i2 := Ints.below i2 b39
    replace i3 := Ints.below i3 b39
    replace i4 := Ints.below i4 b39
    obtain ⟨cc41, cc42, cc43⟩ := cells3 H16.out
    have ll44 := (Array.getElem?_eq_some_iff.1 H16.out).1
    obtain ⟨cc45, cc46, cc47⟩ := cells3 H22.out
    have ll48 := (Array.getElem?_eq_some_iff.1 H22.out).1
    go_wp2_with fail
    clear cc41 cc42 cc43 ll44 cc45 cc46 cc47 ll48
    refine (sameTalk_any 0 0 0 0 a1 a3 [] [] c1 c3 w38 i1 i3 (by first | omega | simp) (by first | omega | simp)).mono ?_
    rintro e w49 ⟨rfl, b50⟩
    have zw49 := b50.size
    have B51 := B40.trans (b50.mono B40.size)
    clear B40
    replace H6 := Lib.hid ((b50.block _ (Array.getElem?_eq_some_iff.1 H6.out).1).trans H6.out)
    replace H16 := Lib.hid ((b50.block _ (Array.getElem?_eq_some_iff.1 H16.out).1).trans H16.out)
    replace H22 := Lib.hid ((b50.block _ (Array.getElem?_eq_some_iff.1 H22.out).1).trans H22.out)
    replace ix := Ints.below ix b50
    replace i1 := Ints.below i1 b50
    replace i2 := Ints.below i2 b50
    replace i3 := Ints.below i3 b50
    replace i4 := Ints.below i4 b50
    go_wp2
    go_ret
    exact ⟨rfl, B51⟩
  · rw [hR] at HI HJ
    clear hR
    have ht := talkB_turn hv
    have n01 := (talkB_facts hv).1
    have n0 := n01.1
    have n1 := n01.2
    have lp : (packetL n xs).length ≤ 20 := by rw [packetL_length]; omega
    clear n01 hv
    go_wp2_with fail
    refine name_calls fun W52 hW52 => ?_
    have zW52 : W52.heap.size = w2.heap.size + 1 := by rw [hW52]; simp
    have H530 := (heap_new_at w2 (.cells #[.int .i64 n, .int .i64 t, .slice a xs.length c] 25 (0, 0)) (w2.heap.size) (by simp))
    rw [← hW52] at H530
    have H53 := Lib.hid H530
    clear H530
    have B54 := (below_alloc3 B4 (.cells #[.int .i64 n, .int .i64 t, .slice a xs.length c] 25 (0, 0)))
    rw [← hW52] at B54
    clear B4
    replace ix := (Ints.keep ix (Keeps.alloc _ (.cells #[.int .i64 n, .int .i64 t, .slice a xs.length c] 25 (0, 0))))
    rw [← hW52] at ix
    clear hW52
    refine (HI.out W52 ix).mono ?_
    rintro e w55 ⟨⟨a1, c1, a2, c2, rfl, o1, o2, ap1⟩, b56⟩
    have zw55 := b56.size
    have B57 := B54.trans (b56.mono B54.size)
    clear B54
    replace H53 := Lib.hid ((b56.block _ (Array.getElem?_eq_some_iff.1 H53.out).1).trans H53.out)
    replace ix := Ints.below ix b56
    have i1 : Ints w55 a1 xs := own_cells o1
    have i2 : Ints w55 a2 (packetL n xs) := own_cells o2
    have hcap2 : (packetL n xs).length ≤ c2 := own_cap o2
    clear o1 o2 ap1
    obtain ⟨cc58, cc59, cc60⟩ := cells3 H53.out
    have ll61 := (Array.getElem?_eq_some_iff.1 H53.out).1
    go_wp2_with fail
    clear cc58 cc59 cc60 ll61
    refine name_calls fun W62 hW62 => ?_
    have zW62 : W62.heap.size = w55.heap.size + 1 := by rw [hW62]; simp
    have H630 := (heap_new_at w55 (.cells #[.int .i64 n, .int .i64 (t + 1), .slice a1 xs.length c1] 25 (0, 0)) (w55.heap.size) (by simp))
    rw [← hW62] at H630
    have H63 := Lib.hid H630
    clear H630
    have B64 := (below_alloc3 B57 (.cells #[.int .i64 n, .int .i64 (t + 1), .slice a1 xs.length c1] 25 (0, 0)))
    rw [← hW62] at B64
    clear B57
    have H530 := (box_alloc H53.out (.cells #[.int .i64 n, .int .i64 (t + 1), .slice a1 xs.length c1] 25 (0, 0)))
    rw [← hW62] at H530
    clear H53
    have H53 := Lib.hid H530
    clear H530
    replace ix := (Ints.keep ix (Keeps.alloc _ (.cells #[.int .i64 n, .int .i64 (t + 1), .slice a1 xs.length c1] 25 (0, 0))))
    rw [← hW62] at ix
    replace i1 := (Ints.keep i1 (Keeps.alloc _ (.cells #[.int .i64 n, .int .i64 (t + 1), .slice a1 xs.length c1] 25 (0, 0))))
    rw [← hW62] at i1
    replace i2 := (Ints.keep i2 (Keeps.alloc _ (.cells #[.int .i64 n, .int .i64 (t + 1), .slice a1 xs.length c1] 25 (0, 0))))
    rw [← hW62] at i2
    clear hW62
    refine (HJ.out W62 ix).mono ?_
    rintro e w65 ⟨⟨a3, c3, a4, c4, rfl, o3, o4, ap3⟩, b66⟩
    have zw65 := b66.size
    have B67 := B64.trans (b66.mono B64.size)
    clear B64
    replace H53 := Lib.hid ((b66.block _ (Array.getElem?_eq_some_iff.1 H53.out).1).trans H53.out)
    replace H63 := Lib.hid ((b66.block _ (Array.getElem?_eq_some_iff.1 H63.out).1).trans H63.out)
    replace ix := Ints.below ix b66
    replace i1 := Ints.below i1 b66
    replace i2 := Ints.below i2 b66
    have i3 : Ints w65 a3 xs := own_cells o3
    have i4 : Ints w65 a4 (packetL n xs) := own_cells o4
    clear o3 o4 ap3
    go_wp2_with fail
    refine name_calls fun W68 hW68 => ?_
    have zW68 : W68.heap.size = w65.heap.size + 1 := by rw [hW68]; simp
    have H690 := (heap_new_at w65 (.cells #[.int .i64 n, .int .i64 (t + 1), .slice a3 xs.length c3] 25 (0, 0)) (w65.heap.size) (by simp))
    rw [← hW68] at H690
    have H69 := Lib.hid H690
    clear H690
    have B70 := (below_alloc3 B67 (.cells #[.int .i64 n, .int .i64 (t + 1), .slice a3 xs.length c3] 25 (0, 0)))
    rw [← hW68] at B70
    clear B67
    have H530 := (box_alloc H53.out (.cells #[.int .i64 n, .int .i64 (t + 1), .slice a3 xs.length c3] 25 (0, 0)))
    rw [← hW68] at H530
    clear H53
    have H53 := Lib.hid H530
    clear H530
    have H630 := (box_alloc H63.out (.cells #[.int .i64 n, .int .i64 (t + 1), .slice a3 xs.length c3] 25 (0, 0)))
    rw [← hW68] at H630
    clear H63
    have H63 := Lib.hid H630
    clear H630
    replace ix := (Ints.keep ix (Keeps.alloc _ (.cells #[.int .i64 n, .int .i64 (t + 1), .slice a3 xs.length c3] 25 (0, 0))))
    rw [← hW68] at ix
    replace i1 := (Ints.keep i1 (Keeps.alloc _ (.cells #[.int .i64 n, .int .i64 (t + 1), .slice a3 xs.length c3] 25 (0, 0))))
    rw [← hW68] at i1
    replace i2 := (Ints.keep i2 (Keeps.alloc _ (.cells #[.int .i64 n, .int .i64 (t + 1), .slice a3 xs.length c3] 25 (0, 0))))
    rw [← hW68] at i2
    replace i3 := (Ints.keep i3 (Keeps.alloc _ (.cells #[.int .i64 n, .int .i64 (t + 1), .slice a3 xs.length c3] 25 (0, 0))))
    rw [← hW68] at i3
    replace i4 := (Ints.keep i4 (Keeps.alloc _ (.cells #[.int .i64 n, .int .i64 (t + 1), .slice a3 xs.length c3] 25 (0, 0))))
    rw [← hW68] at i4
    clear hW68
    refine (sameInts_below a2 a4 (packetL n xs) (packetL n xs) c2 c4 W68 i2 i4 (by first | omega | simp) (by first | omega | simp)).mono ?_
    rintro e w71 ⟨rfl, b72⟩
    have zw71 := b72.size
    have B73 := B70.trans (b72.mono B70.size)
    clear B70
    replace H53 := Lib.hid ((b72.block _ (Array.getElem?_eq_some_iff.1 H53.out).1).trans H53.out)
    replace H63 := Lib.hid ((b72.block _ (Array.getElem?_eq_some_iff.1 H63.out).1).trans H63.out)
    replace H69 := Lib.hid ((b72.block _ (Array.getElem?_eq_some_iff.1 H69.out).1).trans H69.out)
    replace ix := Ints.below ix b72
    replace i1 := Ints.below i1 b72
    replace i2 := Ints.below i2 b72
    replace i3 := Ints.below i3 b72
    replace i4 := Ints.below i4 b72
    obtain ⟨cc74, cc75, cc76⟩ := cells3 H63.out
    have ll77 := (Array.getElem?_eq_some_iff.1 H63.out).1
    obtain ⟨cc78, cc79, cc80⟩ := cells3 H69.out
    have ll81 := (Array.getElem?_eq_some_iff.1 H69.out).1
    go_wp2_with fail
    clear cc74 cc75 cc76 ll77 cc78 cc79 cc80 ll81
    refine (sameTalk_any n (t + 1) n (t + 1) a1 a3 xs xs c1 c3 w71 i1 i3 (by first | omega | simp) (by first | omega | simp)).mono ?_
    rintro e w82 ⟨rfl, b83⟩
    have zw82 := b83.size
    have B84 := B73.trans (b83.mono B73.size)
    clear B73
    replace H53 := Lib.hid ((b83.block _ (Array.getElem?_eq_some_iff.1 H53.out).1).trans H53.out)
    replace H63 := Lib.hid ((b83.block _ (Array.getElem?_eq_some_iff.1 H63.out).1).trans H63.out)
    replace H69 := Lib.hid ((b83.block _ (Array.getElem?_eq_some_iff.1 H69.out).1).trans H69.out)
    replace ix := Ints.below ix b83
    replace i1 := Ints.below i1 b83
    replace i2 := Ints.below i2 b83
    replace i3 := Ints.below i3 b83
    replace i4 := Ints.below i4 b83
    obtain ⟨cc85, cc86, cc87⟩ := cells3 H63.out
    have ll88 := (Array.getElem?_eq_some_iff.1 H63.out).1
    go_wp2_with fail
    clear cc85 cc86 cc87 ll88
    refine name_wp fun W89 hW89 => ?_
    have zW89 : W89.heap.size = w82.heap.size + 1 := by rw [hW89]; simp
    have H900 := (heap_new_at w82 (.cells #[.int .i64 n, .int .i64 (t + 1), .slice a1 xs.length c1] 25 (0, 0)) (w82.heap.size) (by simp))
    rw [← hW89] at H900
    have H90 := Lib.hid H900
    clear H900
    have B91 := (below_alloc3 B84 (.cells #[.int .i64 n, .int .i64 (t + 1), .slice a1 xs.length c1] 25 (0, 0)))
    rw [← hW89] at B91
    clear B84
    have H530 := (box_alloc H53.out (.cells #[.int .i64 n, .int .i64 (t + 1), .slice a1 xs.length c1] 25 (0, 0)))
    rw [← hW89] at H530
    clear H53
    have H53 := Lib.hid H530
    clear H530
    have H630 := (box_alloc H63.out (.cells #[.int .i64 n, .int .i64 (t + 1), .slice a1 xs.length c1] 25 (0, 0)))
    rw [← hW89] at H630
    clear H63
    have H63 := Lib.hid H630
    clear H630
    have H690 := (box_alloc H69.out (.cells #[.int .i64 n, .int .i64 (t + 1), .slice a1 xs.length c1] 25 (0, 0)))
    rw [← hW89] at H690
    clear H69
    have H69 := Lib.hid H690
    clear H690
    replace ix := (Ints.keep ix (Keeps.alloc _ (.cells #[.int .i64 n, .int .i64 (t + 1), .slice a1 xs.length c1] 25 (0, 0))))
    rw [← hW89] at ix
    replace i1 := (Ints.keep i1 (Keeps.alloc _ (.cells #[.int .i64 n, .int .i64 (t + 1), .slice a1 xs.length c1] 25 (0, 0))))
    rw [← hW89] at i1
    replace i2 := (Ints.keep i2 (Keeps.alloc _ (.cells #[.int .i64 n, .int .i64 (t + 1), .slice a1 xs.length c1] 25 (0, 0))))
    rw [← hW89] at i2
    replace i3 := (Ints.keep i3 (Keeps.alloc _ (.cells #[.int .i64 n, .int .i64 (t + 1), .slice a1 xs.length c1] 25 (0, 0))))
    rw [← hW89] at i3
    replace i4 := (Ints.keep i4 (Keeps.alloc _ (.cells #[.int .i64 n, .int .i64 (t + 1), .slice a1 xs.length c1] 25 (0, 0))))
    rw [← hW89] at i4
    clear hW89
    have HT := Lib.hid ht
    have HBD := Lib.hid hb
    have HX := Lib.hid (show w82.heap.size < W89.heap.size from box_lt H90.out)
    clear ht hb
    go_loopw [11] (fun i wr => ∃ (k : Nat) (ax : Option Addr) (cx : Nat), i = .int .i64 k ∧ t + 1 + (k : Int) ≤ 5 ∧ Below w.heap.size w wr ∧ w.heap.size ≤ w82.heap.size ∧ wr.heap[w82.heap.size]? = some (.cells #[.int .i64 n, .int .i64 (t + 1 + (k : Int)), .slice ax xs.length cx] 25 (0, 0)) ∧ Ints wr ax xs) (fun i _ => 5 - (intOf i).toNat)
    case atStart => exact ⟨0, a1, c1, rfl, by omega, B91, by omega, by simpa using H90.out, i1⟩
    case round =>
      obtain ⟨k, ax, cx, rfl, hk, hB, hbl, hH, hx⟩ := hrel
      have hi5 : (k : Int) < 5 := by omega
      obtain ⟨x0, x1, x2, _, _, _⟩ := three_cells hH
      have HL := Lib.hid (fun v h => implTalkLate_any n (t + 1 + (k : Int)) ax xs cx v h (by omega))
      have HH := Lib.hid hH
      clear hH
      by_cases h5 : t + 1 + (k : Int) = 5
      · rw [h5, late_end] at HL
        rw [h5] at x1
        have H5 := Lib.hid h5
        clear h5
        go_wp2_with fail
        refine (HL.out wr hx).mono ?_
        rintro e wa ⟨⟨a5, c5, a6, c6, rfl, o5, o6, ap5⟩, ba⟩
        have HHa := (ba.block _ (box_lt HH.out)).trans HH.out
        have hlt := box_lt HHa
        obtain ⟨y0, y1, y2, _, _, _⟩ := three_cells HHa
        rw [H5.out] at y1
        clear HHa x0 x1 x2
        go_wp2
        go_ret
        refine ⟨rfl, ?_⟩
        have hB2 := hB.trans (ba.mono hB.size)
        repeat' (first | exact Below.refl _ _ | exact Nat.le_refl _ | assumption | refine Below.drew ?_ | refine below_drewN ?_ _ | (refine Below.alloc ?_ (by first | exact Nat.le_refl _ | omega | (simp; done) | (simp; omega)) _) | (refine Below.setCell ?_ (by first | exact Nat.le_refl _ | omega | (simp; done) | (simp; omega)) _))
      · have h5l : t + 1 + (k : Int) < 5 := by omega
        rw [late_yes HT.out HBD.out (by omega) h5l] at HL
        clear h5
        go_wp2_with fail
        refine (HL.out wr hx).mono ?_
        rintro e wa ⟨⟨a5, c5, a6, c6, rfl, o5, o6, ap5⟩, ba⟩
        have HHa := (ba.block _ (box_lt HH.out)).trans HH.out
        have hlt := box_lt HHa
        obtain ⟨y0, y1, y2, g0, g1, g2⟩ := three_cells HHa
        have HA := Lib.hid HHa
        clear HHa x0 x1 x2
        have hB2 := hB.trans (ba.mono hB.size)
        have zr := ba.size
        have hlr := box_lt HH.out
        go_wp2
        go_roundw
        case rel =>
          have i5 : Ints wa a5 xs := own_cells o5
          refine ⟨k + 1, a5, c5, by go_num, by omega, ?_, hbl, ?_, ?_⟩
          · repeat' (first | exact Below.refl _ _ | exact Nat.le_refl _ | assumption | refine Below.drew ?_ | refine below_drewN ?_ _ | (refine Below.alloc ?_ (by first | exact Nat.le_refl _ | omega | (simp; done) | (simp; omega)) _) | (refine Below.setCell ?_ (by first | exact Nat.le_refl _ | omega | (simp; done) | (simp; omega)) _))
          · refine box_alloc ?_ _
            have e : t + 1 + ((k + 1 : Nat) : Int) = t + 1 + (k : Int) + 1 := by omega
            rw [e]
            exact three_set2 (three_set1 (three_set0 HA.out _) _) _
          · refine Ints.keep ?_ (Keeps.alloc _ _)
            exact own_cells (own_set (own_set (own_set o5 _ _ (by simp; omega)) _ _ (by simp; omega)) _ _ (by simp; omega))
        case measure => simp [intOf]; omega

set_option linter.unusedVariables false in
set_option maxRecDepth 100000 in
theorem FnTalkLateEnd_lifted (os : Os) (started : os.Started) (H : Type) (enc : TypeId × Value → H) :
    ReturnsInHanded {} Try.checked os 12 .any (Rows.fnTalkLateEndSpec.pre6 enc Try.prog Try.f12 Rows.fnTalkLateEndRow.domain false) (Rows.fnTalkLateEndSpec.post enc Try.prog Try.f12 false true false false) := by
  refine returnsInHanded_of_change (C := Try.checked) own_knob started (by kernel_rfl) Try.func12
    (ChangeSpec.witness6 (enc := enc) (C := Try.checked) false ⟨#[], #[.slice none 0 0], []⟩ 8 (by kernel_rfl) (by kernel_rfl) (by kernel_rfl) (by kernel_rfl)) ?_
  intro W base args ds gs before hval0 hW hcnd _
  have hval : ∀ (j : Nat) t v, Try.f12.params[j]? = some t → args[j]? = some v → Value.okWide Try.prog W .any base t v := hval0
  have hW' := hW
  obtain ⟨p, q, hA0, hV, rfl, hfz, hnd⟩ := hW
  have hA : DataW.TrodAll enc Try.prog W 0 (fun _ => true) true Try.f12.params.toList args.toList ds p := hA0
  rw [Try.params12] at hA hval
  obtain ⟨v0, vs0, d0, ds0, p0, q0, hargs, rfl, rfl, h0, r0⟩ := trodAll_cons hA
  obtain ⟨rfl, rfl, rfl⟩ := trodAll_nil r0
  obtain rfl : args = #[v0] := by cases args; simp_all
  obtain ⟨rfl, rfl⟩ := trodVars_none hV
  have k0 := h0
  have lt0 : ∀ x ∈ p0, x.block < W.heap.size := by obtain ⟨m, hm⟩ := k0; exact DataW.trod_lt m _ _ _ hm
  obtain ⟨a0, len0, cap0, rfl⟩ := okWide_slice Try.underlying22 (hval 0 22 v0 rfl rfl)
  obtain ⟨z0, rfl, lc0, lm0, rz0⟩ : ∃ z : List Int, len0 = z.length ∧ z.length ≤ cap0 ∧ cap0 ≤ maxLen ∧ Bytes W a0 z := by
    obtain ⟨fuel, hf⟩ := h0
    obtain ⟨ao, cap, z, e, h1, h2, h3⟩ := rd_bytes hf
    simp [Value.cells] at e
    obtain ⟨rfl, rfl, rfl⟩ := e
    exact ⟨z, rfl, h1, h2, h3⟩
  have lb0 : z0.length ≤ cap0 := lc0
  clear hA0 hval0
  refine (FnTalkLateEnd_walk a0 z0 cap0 W rz0 lc0 lm0).mono fun e W' ⟨he, bel⟩ => ?_
  subst he
  exact ⟨_, rfl, _, _, _, [], _, [], hW', trodAll_mk1 (shut_bool Try.underlying4 _), (trodAll_cons_mk (Below.trod laid_out (by kernel_rfl) (of_decide_eq_true (by kernel_rfl)) k0 bel lt0) trodAll_mk0), rfl, bel.frame _, fun h => by cases h⟩

theorem FnTalkLateEnd_holds : Rows.FnTalkLateEndSaid :=
  OpenClaim.holds_of_wide 12 Try.f12 rfl rfl rfl rfl rfl rfl rfl ⟨rfl, rfl, rfl, rfl, rfl⟩ rfl rfl rfl rfl rfl (by kernel_rfl) Try.func12 (by kernel_rfl)
    (of_decide_eq_true (by kernel_rfl)) (by unfold Func.isWrapper; first | (rw [if_pos (by decide +kernel)]; kernel_rfl) | (rw [if_neg (by decide +kernel)]; exact ⟨rfl, rfl⟩))
    (fun os started H enc _ => FnTalkLateEnd_lifted os started H enc)
end Go.Proofs.Ytjamcfnclnpdkaa
