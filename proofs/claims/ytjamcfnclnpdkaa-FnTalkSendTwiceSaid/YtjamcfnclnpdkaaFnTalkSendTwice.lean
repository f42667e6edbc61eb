/- FnTalkSendTwice: for every code, what the statement says of packets that are sent. No condition. -/
import Derived.Test.YtjamcfnclnpdkaaTalkLaw2
import Derived.Test.YtjamcfnclnpdkaaSaidB
namespace Go.Proofs.Ytjamcfnclnpdkaa
open Go.ChangeShapes Go.WideShapes Go.ChangeAt Go.RowKit

set_option maxHeartbeats 4000000 in
set_option maxRecDepth 100000 in
theorem FnTalkSendTwice_walk (a0 : Option Addr) (z0 : List Int) (cap0 : Nat) (w : World) (rz0 : Bytes w a0 z0) (lc0 : z0.length ≤ cap0) (_lm0 : cap0 ≤ maxLen) :
    Calls Try.prog 14 #[.slice a0 z0.length cap0] w fun e w' => e = .returned (.bool true) ∧ Below w.heap.size w w' := by
  unfold maxLen at _lm0
  by_cases hn0 : (z0.length : Int) ≤ 1048576
  case neg =>
    have hn0' : (1048576 : Int) < (z0.length : Int) := by omega
    go_enter Try.func14, Try.ntmps14
    go_wp2
    go_ret
    exact ⟨rfl, Below.refl _ _⟩
  go_enter Try.func14, Try.ntmps14
  have B1 : Below w.heap.size w w := Below.refl _ _
  go_wp2_with fail
  refine (drawTalkSend_any a0 z0 cap0 w rz0 lc0 (by omega)).mono ?_
  rintro e w2 ⟨n, t, a, xs, c, b, ys, d, rfl, lx, ly, ix, iy, b3⟩
  have zw2 := b3.size
  have B4 := B1.trans (b3.mono B1.size)
  clear B1
  have HI := Lib.hid (fun v h1 h2 => implTalkSend_any n t a b xs ys c d v h1 (by omega) h2 (by omega))
  have HJ := Lib.hid (fun v h1 h2 => specTalkSend_any n t a b xs ys c d v h1 (by omega) h2 (by omega))
  rcases send_cases n t xs ys with hR | ⟨hv, rfl, rfl, hb, hR⟩
  · rw [hR] at HI HJ
    clear hR
    go_wp2_with fail
    refine name_calls fun W5 hW5 => ?_
    have zW5 : W5.heap.size = w2.heap.size + 1 := by rw [hW5]; simp
    have H60 := (heap_new_at w2 (.cells #[.int .i64 n, .int .i64 t, .slice a xs.length c] 25 (0, 0)) (w2.heap.size) (by simp))
    rw [← hW5] at H60
    have H6 := Lib.hid H60
    clear H60
    have B7 := (below_alloc3 B4 (.cells #[.int .i64 n, .int .i64 t, .slice a xs.length c] 25 (0, 0)))
    rw [← hW5] at B7
    clear B4
    replace ix := (Ints.keep ix (Keeps.alloc _ (.cells #[.int .i64 n, .int .i64 t, .slice a xs.length c] 25 (0, 0))))
    rw [← hW5] at ix
    replace iy := (Ints.keep iy (Keeps.alloc _ (.cells #[.int .i64 n, .int .i64 t, .slice a xs.length c] 25 (0, 0))))
    rw [← hW5] at iy
    clear hW5
    refine (HI.out W5 ix iy).mono ?_
    rintro e w8 ⟨⟨a1, c1, a2, c2, rfl, o1, o2, ap1⟩, b9⟩
    have zw8 := b9.size
    have B10 := B7.trans (b9.mono B7.size)
    clear B7
    replace H6 := Lib.hid ((b9.block _ (Array.getElem?_eq_some_iff.1 H6.out).1).trans H6.out)
    replace ix := Ints.below ix b9
    replace iy := Ints.below iy b9
    have i1 : Ints w8 a1 [] := own_cells o1
    have i2 : Ints w8 a2 [] := own_cells o2
    have hcap2 : ([] : List Int).length ≤ c2 := own_cap o2
    clear o1 o2 ap1
    obtain ⟨cc11, cc12, cc13⟩ := cells3 H6.out
    have ll14 := (Array.getElem?_eq_some_iff.1 H6.out).1
    go_wp2_with fail
    clear cc11 cc12 cc13 ll14
    refine name_calls fun W15 hW15 => ?_
    have zW15 : W15.heap.size = w8.heap.size + 1 := by rw [hW15]; simp
    have H160 := (heap_new_at w8 (.cells #[.int .i64 0, .int .i64 0, .slice a1 0 c1] 25 (0, 0)) (w8.heap.size) (by simp))
    rw [← hW15] at H160
    have H16 := Lib.hid H160
    clear H160
    have B17 := (below_alloc3 B10 (.cells #[.int .i64 0, .int .i64 0, .slice a1 0 c1] 25 (0, 0)))
    rw [← hW15] at B17
    clear B10
    have H60 := (box_alloc H6.out (.cells #[.int .i64 0, .int .i64 0, .slice a1 0 c1] 25 (0, 0)))
    rw [← hW15] at H60
    clear H6
    have H6 := Lib.hid H60
    clear H60
    replace ix := (Ints.keep ix (Keeps.alloc _ (.cells #[.int .i64 0, .int .i64 0, .slice a1 0 c1] 25 (0, 0))))
    rw [← hW15] at ix
    replace iy := (Ints.keep iy (Keeps.alloc _ (.cells #[.int .i64 0, .int .i64 0, .slice a1 0 c1] 25 (0, 0))))
    rw [← hW15] at iy
    replace i1 := (Ints.keep i1 (Keeps.alloc _ (.cells #[.int .i64 0, .int .i64 0, .slice a1 0 c1] 25 (0, 0))))
    rw [← hW15] at i1
    replace i2 := (Ints.keep i2 (Keeps.alloc _ (.cells #[.int .i64 0, .int .i64 0, .slice a1 0 c1] 25 (0, 0))))
    rw [← hW15] at i2
    clear hW15
    refine (HJ.out W15 ix iy).mono ?_
    rintro e w18 ⟨⟨a3, c3, a4, c4, rfl, o3, o4, ap3⟩, b19⟩
    have zw18 := b19.size
    have B20 := B17.trans (b19.mono B17.size)
    clear B17
    replace H6 := Lib.hid ((b19.block _ (Array.getElem?_eq_some_iff.1 H6.out).1).trans H6.out)
    replace H16 := Lib.hid ((b19.block _ (Array.getElem?_eq_some_iff.1 H16.out).1).trans H16.out)
    replace ix := Ints.below ix b19
    replace iy := Ints.below iy b19
    replace i1 := Ints.below i1 b19
    replace i2 := Ints.below i2 b19
    have i3 : Ints w18 a3 [] := own_cells o3
    have i4 : Ints w18 a4 [] := own_cells o4
    clear o3 o4 ap3
    go_wp2_with fail
    refine name_calls fun W21 hW21 => ?_
    have zW21 : W21.heap.size = w18.heap.size + 1 := by rw [hW21]; simp
    have H220 := (heap_new_at w18 (.cells #[.int .i64 0, .int .i64 0, .slice a3 0 c3] 25 (0, 0)) (w18.heap.size) (by simp))
    rw [← hW21] at H220
    have H22 := Lib.hid H220
    clear H220
    have B23 := (below_alloc3 B20 (.cells #[.int .i64 0, .int .i64 0, .slice a3 0 c3] 25 (0, 0)))
    rw [← hW21] at B23
    clear B20
    have H60 := (box_alloc H6.out (.cells #[.int .i64 0, .int .i64 0, .slice a3 0 c3] 25 (0, 0)))
    rw [← hW21] at H60
    clear H6
    have H6 := Lib.hid H60
    clear H60
    have H160 := (box_alloc H16.out (.cells #[.int .i64 0, .int .i64 0, .slice a3 0 c3] 25 (0, 0)))
    rw [← hW21] at H160
    clear H16
    have H16 := Lib.hid H160
    clear H160
    replace ix := (Ints.keep ix (Keeps.alloc _ (.cells #[.int .i64 0, .int .i64 0, .slice a3 0 c3] 25 (0, 0))))
    rw [← hW21] at ix
    replace iy := (Ints.keep iy (Keeps.alloc _ (.cells #[.int .i64 0, .int .i64 0, .slice a3 0 c3] 25 (0, 0))))
    rw [← hW21] at iy
    replace i1 := (Ints.keep i1 (Keeps.alloc _ (.cells #[.int .i64 0, .int .i64 0, .slice a3 0 c3] 25 (0, 0))))
    rw [← hW21] at i1
    replace i2 := (Ints.keep i2 (Keeps.alloc _ (.cells #[.int .i64 0, .int .i64 0, .slice a3 0 c3] 25 (0, 0))))
    rw [← hW21] at i2
    replace i3 := (Ints.keep i3 (Keeps.alloc _ (.cells #[.int .i64 0, .int .i64 0, .slice a3 0 c3] 25 (0, 0))))
    rw [← hW21] at i3
    replace i4 := (Ints.keep i4 (Keeps.alloc _ (.cells #[.int .i64 0, .int .i64 0, .slice a3 0 c3] 25 (0, 0))))
    rw [← hW21] at i4
    clear hW21
    refine (sameInts_below a2 a4 [] [] c2 c4 W21 i2 i4 (by first | omega | simp) (by first | omega | simp)).mono ?_
    rintro e w24 ⟨rfl, b25⟩
    have zw24 := b25.size
    have B26 := B23.trans (b25.mono B23.size)
    clear B23
    replace H6 := Lib.hid ((b25.block _ (Array.getElem?_eq_some_iff.1 H6.out).1).trans H6.out)
    replace H16 := Lib.hid ((b25.block _ (Array.getElem?_eq_some_iff.1 H16.out).1).trans H16.out)
    replace H22 := Lib.hid ((b25.block _ (Array.getElem?_eq_some_iff.1 H22.out).1).trans H22.out)
    replace ix := Ints.below ix b25
    replace iy := Ints.below iy b25
    replace i1 := Ints.below i1 b25
    replace i2 := Ints.below i2 b25
    replace i3 := Ints.below i3 b25
    replace i4 := Ints.below i4 b25
    obtain ⟨cc27, cc28, cc29⟩ := cells3 H16.out
    have ll30 := (Array.getElem?_eq_some_iff.1 H16.out).1
    obtain ⟨cc31, cc32, cc33⟩ := cells3 H22.out
    have ll34 := (Array.getElem?_eq_some_iff.1 H22.out).1
    go_wp2_with fail
    clear cc27 cc28 cc29 ll30 cc31 cc32 cc33 ll34
    refine (sameTalk_any 0 0 0 0 a1 a3 [] [] c1 c3 w24 i1 i3 (by first | omega | simp) (by first | omega | simp)).mono ?_
    rintro e w35 ⟨rfl, b36⟩
    have zw35 := b36.size
    have B37 := B26.trans (b36.mono B26.size)
    clear B26
    replace H6 := Lib.hid ((b36.block _ (Array.getElem?_eq_some_iff.1 H6.out).1).trans H6.out)
    replace H16 := Lib.hid ((b36.block _ (Array.getElem?_eq_some_iff.1 H16.out).1).trans H16.out)
    replace H22 := Lib.hid ((b36.block _ (Array.getElem?_eq_some_iff.1 H22.out).1).trans H22.out)
    replace ix := Ints.below ix b36
    replace iy := Ints.below iy b36
    replace i1 := Ints.below i1 b36
    replace i2 := Ints.below i2 b36
    replace i3 := Ints.below i3 b36
    replace i4 := Ints.below i4 b36
    go_wp2_with fail
    refine (sameInts_below a2 a4 [] [] c2 c4 w35 i2 i4 (by first | omega | simp) (by first | omega | simp)).mono ?_
    rintro e w38 ⟨rfl, b39⟩
    have zw38 := b39.size
    have B40 := B37.trans (b39.mono B37.size)
    clear B37
    replace H6 := Lib.hid ((b39.block _ (Array.getElem?_eq_some_iff.1 H6.out).1).trans H6.out)
    replace H16 := Lib.hid ((b39.block _ (Array.getElem?_eq_some_iff.1 H16.out).1).trans H16.out)
    replace H22 := Lib.hid ((b39.block _ (Array.getElem?_eq_some_iff.1 H22.out).1).trans H22.out)
    replace ix := Ints.below ix b39
    replace iy := Ints.below iy b39
    replace i1 := Ints.below i1 b39
    replace i2 := Ints.below i2 b39
    replace i3 := Ints.below i3 b39
    replace i4 := Ints.below i4 b39
    obtain ⟨cc41, cc42, cc43⟩ := cells3 H16.out
    have ll44 := (Array.getElem?_eq_some_iff.1 H16.out).1
    obtain ⟨cc45, cc46, cc47⟩ := cells3 H22.out
    have ll48 := (Array.getElem?_eq_some_iff.1 H22.out).1
    go_wp2_with fail
    clear cc41 cc42 cc43 ll44 cc45 cc46 cc47 ll48
    refine (sameTalk_any 0 0 0 0 a1 a3 [] [] c1 c3 w38 i1 i3 (by first | omega | simp) (by first | omega | simp)).mono ?_
    rintro e w49 ⟨rfl, b50⟩
    have zw49 := b50.size
    have B51 := B40.trans (b50.mono B40.size)
    clear B40
    replace H6 := Lib.hid ((b50.block _ (Array.getElem?_eq_some_iff.1 H6.out).1).trans H6.out)
    replace H16 := Lib.hid ((b50.block _ (Array.getElem?_eq_some_iff.1 H16.out).1).trans H16.out)
    replace H22 := Lib.hid ((b50.block _ (Array.getElem?_eq_some_iff.1 H22.out).1).trans H22.out)
    replace ix := Ints.below ix b50
    replace iy := Ints.below iy b50
    replace i1 := Ints.below i1 b50
    replace i2 := Ints.below i2 b50
    replace i3 := Ints.below i3 b50
    replace i4 := Ints.below i4 b50
    go_wp2
    go_ret
    exact ⟨rfl, B51⟩
  · rw [hR] at HI HJ
    clear hR
    have ht := talkB_turn hv
    have n01 := (talkB_facts hv).1
    have n0 := n01.1
    have n1 := n01.2
    have lb := (bodyB_facts hb).1
    have lb17 := (bodyB_facts hb).2.1
    have lp : (packetL n ys).length ≤ 20 := by rw [packetL_length]; omega
    clear n01 hv
    have e1 := send_busy n ys ys
    have e2 : ansB n 1 ys n = true := by simp [ansB, talkB_one ht hb]
    have e3 : ansN n 1 ys n = 1 - n := by simp [ansN, e2]
    have e4 := send_yes (turnB_flip ht) hb
    have H1 := Lib.hid (fun v ax cx h1 h2 => implTalkSend_any n 1 ax b ys ys cx d v h1 (by omega) h2 (by omega))
    have H2 := Lib.hid (fun v ax cx h1 => implTalkAnswer_any n 1 n ax ys cx v h1 (by omega))
    have H3 := Lib.hid (fun v h2 => implTalkSend_any (1 - n) 0 none b [] ys 0 d v (Cells.nil _ _) (by simp) h2 (by omega))
    rw [e1] at H1
    rw [e2, e3] at H2
    rw [e4] at H3
    clear e1 e2 e3 e4 ht hb
    go_wp2_with fail
    refine name_calls fun W52 hW52 => ?_
    have zW52 : W52.heap.size = w2.heap.size + 1 := by rw [hW52]; simp
    have H530 := (heap_new_at w2 (.cells #[.int .i64 n, .int .i64 0, .slice a 0 c] 25 (0, 0)) (w2.heap.size) (by simp))
    rw [← hW52] at H530
    have H53 := Lib.hid H530
    clear H530
    have B54 := (below_alloc3 B4 (.cells #[.int .i64 n, .int .i64 0, .slice a 0 c] 25 (0, 0)))
    rw [← hW52] at B54
    clear B4
    replace ix := (Ints.keep ix (Keeps.alloc _ (.cells #[.int .i64 n, .int .i64 0, .slice a 0 c] 25 (0, 0))))
    rw [← hW52] at ix
    replace iy := (Ints.keep iy (Keeps.alloc _ (.cells #[.int .i64 n, .int .i64 0, .slice a 0 c] 25 (0, 0))))
    rw [← hW52] at iy
    clear hW52
    refine (HI.out W52 ix iy).mono ?_
    rintro e w55 ⟨⟨a1, c1, a2, c2, rfl, o1, o2, ap1⟩, b56⟩
    have zw55 := b56.size
    have B57 := B54.trans (b56.mono B54.size)
    clear B54
    replace H53 := Lib.hid ((b56.block _ (Array.getElem?_eq_some_iff.1 H53.out).1).trans H53.out)
    replace ix := Ints.below ix b56
    replace iy := Ints.below iy b56
    have i1 : Ints w55 a1 ys := own_cells o1
    have i2 : Ints w55 a2 (packetL n ys) := own_cells o2
    have hcap2 : (packetL n ys).length ≤ c2 := own_cap o2
    clear o1 o2 ap1
    obtain ⟨cc58, cc59, cc60⟩ := cells3 H53.out
    have ll61 := (Array.getElem?_eq_some_iff.1 H53.out).1
    go_wp2_with fail
    clear cc58 cc59 cc60 ll61
    refine name_calls fun W62 hW62 => ?_
    have zW62 : W62.heap.size = w55.heap.size + 1 := by rw [hW62]; simp
    have H630 := (heap_new_at w55 (.cells #[.int .i64 n, .int .i64 1, .slice a1 ys.length c1] 25 (0, 0)) (w55.heap.size) (by simp))
    rw [← hW62] at H630
    have H63 := Lib.hid H630
    clear H630
    have B64 := (below_alloc3 B57 (.cells #[.int .i64 n, .int .i64 1, .slice a1 ys.length c1] 25 (0, 0)))
    rw [← hW62] at B64
    clear B57
    have H530 := (box_alloc H53.out (.cells #[.int .i64 n, .int .i64 1, .slice a1 ys.length c1] 25 (0, 0)))
    rw [← hW62] at H530
    clear H53
    have H53 := Lib.hid H530
    clear H530
    replace ix := (Ints.keep ix (Keeps.alloc _ (.cells #[.int .i64 n, .int .i64 1, .slice a1 ys.length c1] 25 (0, 0))))
    rw [← hW62] at ix
    replace iy := (Ints.keep iy (Keeps.alloc _ (.cells #[.int .i64 n, .int .i64 1, .slice a1 ys.length c1] 25 (0, 0))))
    rw [← hW62] at iy
    replace i1 := (Ints.keep i1 (Keeps.alloc _ (.cells #[.int .i64 n, .int .i64 1, .slice a1 ys.length c1] 25 (0, 0))))
    rw [← hW62] at i1
    replace i2 := (Ints.keep i2 (Keeps.alloc _ (.cells #[.int .i64 n, .int .i64 1, .slice a1 ys.length c1] 25 (0, 0))))
    rw [← hW62] at i2
    clear hW62
    refine (HJ.out W62 ix iy).mono ?_
    rintro e w65 ⟨⟨a3, c3, a4, c4, rfl, o3, o4, ap3⟩, b66⟩
    have zw65 := b66.size
    have B67 := B64.trans (b66.mono B64.size)
    clear B64
    replace H53 := Lib.hid ((b66.block _ (Array.getElem?_eq_some_iff.1 H53.out).1).trans H53.out)
    replace H63 := Lib.hid ((b66.block _ (Array.getElem?_eq_some_iff.1 H63.out).1).trans H63.out)
    replace ix := Ints.below ix b66
    replace iy := Ints.below iy b66
    replace i1 := Ints.below i1 b66
    replace i2 := Ints.below i2 b66
    have i3 : Ints w65 a3 ys := own_cells o3
    have i4 : Ints w65 a4 (packetL n ys) := own_cells o4
    clear o3 o4 ap3
    go_wp2_with fail
    refine name_calls fun W68 hW68 => ?_
    have zW68 : W68.heap.size = w65.heap.size + 1 := by rw [hW68]; simp
    have H690 := (heap_new_at w65 (.cells #[.int .i64 n, .int .i64 1, .slice a3 ys.length c3] 25 (0, 0)) (w65.heap.size) (by simp))
    rw [← hW68] at H690
    have H69 := Lib.hid H690
    clear H690
    have B70 := (below_alloc3 B67 (.cells #[.int .i64 n, .int .i64 1, .slice a3 ys.length c3] 25 (0, 0)))
    rw [← hW68] at B70
    clear B67
    have H530 := (box_alloc H53.out (.cells #[.int .i64 n, .int .i64 1, .slice a3 ys.length c3] 25 (0, 0)))
    rw [← hW68] at H530
    clear H53
    have H53 := Lib.hid H530
    clear H530
    have H630 := (box_alloc H63.out (.cells #[.int .i64 n, .int .i64 1, .slice a3 ys.length c3] 25 (0, 0)))
    rw [← hW68] at H630
    clear H63
    have H63 := Lib.hid H630
    clear H630
    replace ix := (Ints.keep ix (Keeps.alloc _ (.cells #[.int .i64 n, .int .i64 1, .slice a3 ys.length c3] 25 (0, 0))))
    rw [← hW68] at ix
    replace iy := (Ints.keep iy (Keeps.alloc _ (.cells #[.int .i64 n, .int .i64 1, .slice a3 ys.length c3] 25 (0, 0))))
    rw [← hW68] at iy
    replace i1 := (Ints.keep i1 (Keeps.alloc _ (.cells #[.int .i64 n, .int .i64 1, .slice a3 ys.length c3] 25 (0, 0))))
    rw [← hW68] at i1
    replace i2 := (Ints.keep i2 (Keeps.alloc _ (.cells #[.int .i64 n, .int .i64 1, .slice a3 ys.length c3] 25 (0, 0))))
    rw [← hW68] at i2
    replace i3 := (Ints.keep i3 (Keeps.alloc _ (.cells #[.int .i64 n, .int .i64 1, .slice a3 ys.length c3] 25 (0, 0))))
    rw [← hW68] at i3
    replace i4 := (Ints.keep i4 (Keeps.alloc _ (.cells #[.int .i64 n, .int .i64 1, .slice a3 ys.length c3] 25 (0, 0))))
    rw [← hW68] at i4
    clear hW68
    refine (sameInts_below a2 a4 (packetL n ys) (packetL n ys) c2 c4 W68 i2 i4 (by first | omega | simp) (by first | omega | simp)).mono ?_
    rintro e w71 ⟨rfl, b72⟩
    have zw71 := b72.size
    have B73 := B70.trans (b72.mono B70.size)
    clear B70
    replace H53 := Lib.hid ((b72.block _ (Array.getElem?_eq_some_iff.1 H53.out).1).trans H53.out)
    replace H63 := Lib.hid ((b72.block _ (Array.getElem?_eq_some_iff.1 H63.out).1).trans H63.out)
    replace H69 := Lib.hid ((b72.block _ (Array.getElem?_eq_some_iff.1 H69.out).1).trans H69.out)
    replace ix := Ints.below ix b72
    replace iy := Ints.below iy b72
    replace i1 := Ints.below i1 b72
    replace i2 := Ints.below i2 b72
    replace i3 := Ints.below i3 b72
    replace i4 := Ints.below i4 b72
    obtain ⟨cc74, cc75, cc76⟩ := cells3 H63.out
    have ll77 := (Array.getElem?_eq_some_iff.1 H63.out).1
    obtain ⟨cc78, cc79, cc80⟩ := cells3 H69.out
    have ll81 := (Array.getElem?_eq_some_iff.1 H69.out).1
    go_wp2_with fail
    clear cc74 cc75 cc76 ll77 cc78 cc79 cc80 ll81
    refine (sameTalk_any n 1 n 1 a1 a3 ys ys c1 c3 w71 i1 i3 (by first | omega | simp) (by first | omega | simp)).mono ?_
    rintro e w82 ⟨rfl, b83⟩
    have zw82 := b83.size
    have B84 := B73.trans (b83.mono B73.size)
    clear B73
    replace H53 := Lib.hid ((b83.block _ (Array.getElem?_eq_some_iff.1 H53.out).1).trans H53.out)
    replace H63 := Lib.hid ((b83.block _ (Array.getElem?_eq_some_iff.1 H63.out).1).trans H63.out)
    replace H69 := Lib.hid ((b83.block _ (Array.getElem?_eq_some_iff.1 H69.out).1).trans H69.out)
    replace ix := Ints.below ix b83
    replace iy := Ints.below iy b83
    replace i1 := Ints.below i1 b83
    replace i2 := Ints.below i2 b83
    replace i3 := Ints.below i3 b83
    replace i4 := Ints.below i4 b83
    obtain ⟨cc85, cc86, cc87⟩ := cells3 H63.out
    have ll88 := (Array.getElem?_eq_some_iff.1 H63.out).1
    go_wp2_with fail
    clear cc85 cc86 cc87 ll88
    refine (H1.out w82 a1 c1 i1 iy).mono ?_
    rintro e w89 ⟨⟨a5, c5, a6, c6, rfl, o5, o6, ap5⟩, b90⟩
    have zw89 := b90.size
    have B91 := B84.trans (b90.mono B84.size)
    clear B84
    replace H53 := Lib.hid ((b90.block _ (Array.getElem?_eq_some_iff.1 H53.out).1).trans H53.out)
    replace H63 := Lib.hid ((b90.block _ (Array.getElem?_eq_some_iff.1 H63.out).1).trans H63.out)
    replace H69 := Lib.hid ((b90.block _ (Array.getElem?_eq_some_iff.1 H69.out).1).trans H69.out)
    replace ix := Ints.below ix b90
    replace iy := Ints.below iy b90
    replace i1 := Ints.below i1 b90
    replace i2 := Ints.below i2 b90
    replace i3 := Ints.below i3 b90
    replace i4 := Ints.below i4 b90
    clear o5 o6 ap5
    obtain ⟨cc92, cc93, cc94⟩ := cells3 H63.out
    have ll95 := (Array.getElem?_eq_some_iff.1 H63.out).1
    obtain ⟨cc96, cc97, cc98⟩ := cells3 H53.out
    have ll99 := (Array.getElem?_eq_some_iff.1 H53.out).1
    go_wp2_with fail
    clear cc92 cc93 cc94 ll95 cc96 cc97 cc98 ll99
    refine name_calls fun W100 hW100 => ?_
    have zW100 : W100.heap.size = w89.heap.size + 1 := by rw [hW100]; simp
    have H1010 := (heap_new_at w89 (.cells #[.int .i64 0, .int .i64 0, .slice a5 0 c5] 25 (0, 0)) (w89.heap.size) (by simp))
    rw [← hW100] at H1010
    have H101 := Lib.hid H1010
    clear H1010
    have B102 := (below_alloc3 B91 (.cells #[.int .i64 0, .int .i64 0, .slice a5 0 c5] 25 (0, 0)))
    rw [← hW100] at B102
    clear B91
    have H530 := (box_alloc H53.out (.cells #[.int .i64 0, .int .i64 0, .slice a5 0 c5] 25 (0, 0)))
    rw [← hW100] at H530
    clear H53
    have H53 := Lib.hid H530
    clear H530
    have H630 := (box_alloc H63.out (.cells #[.int .i64 0, .int .i64 0, .slice a5 0 c5] 25 (0, 0)))
    rw [← hW100] at H630
    clear H63
    have H63 := Lib.hid H630
    clear H630
    have H690 := (box_alloc H69.out (.cells #[.int .i64 0, .int .i64 0, .slice a5 0 c5] 25 (0, 0)))
    rw [← hW100] at H690
    clear H69
    have H69 := Lib.hid H690
    clear H690
    replace ix := (Ints.keep ix (Keeps.alloc _ (.cells #[.int .i64 0, .int .i64 0, .slice a5 0 c5] 25 (0, 0))))
    rw [← hW100] at ix
    replace iy := (Ints.keep iy (Keeps.alloc _ (.cells #[.int .i64 0, .int .i64 0, .slice a5 0 c5] 25 (0, 0))))
    rw [← hW100] at iy
    replace i1 := (Ints.keep i1 (Keeps.alloc _ (.cells #[.int .i64 0, .int .i64 0, .slice a5 0 c5] 25 (0, 0))))
    rw [← hW100] at i1
    replace i2 := (Ints.keep i2 (Keeps.alloc _ (.cells #[.int .i64 0, .int .i64 0, .slice a5 0 c5] 25 (0, 0))))
    rw [← hW100] at i2
    replace i3 := (Ints.keep i3 (Keeps.alloc _ (.cells #[.int .i64 0, .int .i64 0, .slice a5 0 c5] 25 (0, 0))))
    rw [← hW100] at i3
    replace i4 := (Ints.keep i4 (Keeps.alloc _ (.cells #[.int .i64 0, .int .i64 0, .slice a5 0 c5] 25 (0, 0))))
    rw [← hW100] at i4
    clear hW100
    refine (H2.out W100 a1 c1 i1).mono ?_
    rintro e w103 ⟨rfl, b104⟩
    have zw103 := b104.size
    have B105 := B102.trans (b104.mono B102.size)
    clear B102
    replace H53 := Lib.hid ((b104.block _ (Array.getElem?_eq_some_iff.1 H53.out).1).trans H53.out)
    replace H63 := Lib.hid ((b104.block _ (Array.getElem?_eq_some_iff.1 H63.out).1).trans H63.out)
    replace H69 := Lib.hid ((b104.block _ (Array.getElem?_eq_some_iff.1 H69.out).1).trans H69.out)
    replace H101 := Lib.hid ((b104.block _ (Array.getElem?_eq_some_iff.1 H101.out).1).trans H101.out)
    replace ix := Ints.below ix b104
    replace iy := Ints.below iy b104
    replace i1 := Ints.below i1 b104
    replace i2 := Ints.below i2 b104
    replace i3 := Ints.below i3 b104
    replace i4 := Ints.below i4 b104
    go_wp2_with fail
    refine name_calls fun W106 hW106 => ?_
    have zW106 : W106.heap.size = w103.heap.size + 1 := by rw [hW106]; simp
    have H1070 := (heap_new_at w103 (.cells #[.int .i64 (1 - n), .int .i64 0, .slice none 0 0] 25 (0, 0)) (w103.heap.size) (by simp))
    rw [← hW106] at H1070
    have H107 := Lib.hid H1070
    clear H1070
    have B108 := (below_alloc3 B105 (.cells #[.int .i64 (1 - n), .int .i64 0, .slice none 0 0] 25 (0, 0)))
    rw [← hW106] at B108
    clear B105
    have H530 := (box_alloc H53.out (.cells #[.int .i64 (1 - n), .int .i64 0, .slice none 0 0] 25 (0, 0)))
    rw [← hW106] at H530
    clear H53
    have H53 := Lib.hid H530
    clear H530
    have H630 := (box_alloc H63.out (.cells #[.int .i64 (1 - n), .int .i64 0, .slice none 0 0] 25 (0, 0)))
    rw [← hW106] at H630
    clear H63
    have H63 := Lib.hid H630
    clear H630
    have H690 := (box_alloc H69.out (.cells #[.int .i64 (1 - n), .int .i64 0, .slice none 0 0] 25 (0, 0)))
    rw [← hW106] at H690
    clear H69
    have H69 := Lib.hid H690
    clear H690
    have H1010 := (box_alloc H101.out (.cells #[.int .i64 (1 - n), .int .i64 0, .slice none 0 0] 25 (0, 0)))
    rw [← hW106] at H1010
    clear H101
    have H101 := Lib.hid H1010
    clear H1010
    replace ix := (Ints.keep ix (Keeps.alloc _ (.cells #[.int .i64 (1 - n), .int .i64 0, .slice none 0 0] 25 (0, 0))))
    rw [← hW106] at ix
    replace iy := (Ints.keep iy (Keeps.alloc _ (.cells #[.int .i64 (1 - n), .int .i64 0, .slice none 0 0] 25 (0, 0))))
    rw [← hW106] at iy
    replace i1 := (Ints.keep i1 (Keeps.alloc _ (.cells #[.int .i64 (1 - n), .int .i64 0, .slice none 0 0] 25 (0, 0))))
    rw [← hW106] at i1
    replace i2 := (Ints.keep i2 (Keeps.alloc _ (.cells #[.int .i64 (1 - n), .int .i64 0, .slice none 0 0] 25 (0, 0))))
    rw [← hW106] at i2
    replace i3 := (Ints.keep i3 (Keeps.alloc _ (.cells #[.int .i64 (1 - n), .int .i64 0, .slice none 0 0] 25 (0, 0))))
    rw [← hW106] at i3
    replace i4 := (Ints.keep i4 (Keeps.alloc _ (.cells #[.int .i64 (1 - n), .int .i64 0, .slice none 0 0] 25 (0, 0))))
    rw [← hW106] at i4
    clear hW106
    refine (H3.out W106 iy).mono ?_
    rintro e w109 ⟨⟨a7, c7, a8, c8, rfl, o7, o8, ap7⟩, b110⟩
    have zw109 := b110.size
    have B111 := B108.trans (b110.mono B108.size)
    clear B108
    replace H53 := Lib.hid ((b110.block _ (Array.getElem?_eq_some_iff.1 H53.out).1).trans H53.out)
    replace H63 := Lib.hid ((b110.block _ (Array.getElem?_eq_some_iff.1 H63.out).1).trans H63.out)
    replace H69 := Lib.hid ((b110.block _ (Array.getElem?_eq_some_iff.1 H69.out).1).trans H69.out)
    replace H101 := Lib.hid ((b110.block _ (Array.getElem?_eq_some_iff.1 H101.out).1).trans H101.out)
    replace H107 := Lib.hid ((b110.block _ (Array.getElem?_eq_some_iff.1 H107.out).1).trans H107.out)
    replace ix := Ints.below ix b110
    replace iy := Ints.below iy b110
    replace i1 := Ints.below i1 b110
    replace i2 := Ints.below i2 b110
    replace i3 := Ints.below i3 b110
    replace i4 := Ints.below i4 b110
    clear o7 o8 ap7
    obtain ⟨cc112, cc113, cc114⟩ := cells3 H107.out
    have ll115 := (Array.getElem?_eq_some_iff.1 H107.out).1
    obtain ⟨cc116, cc117, cc118⟩ := cells3 H53.out
    have ll119 := (Array.getElem?_eq_some_iff.1 H53.out).1
    go_wp2
    go_ret
    refine ⟨rfl, ?_⟩
    repeat' (first | exact Below.refl _ _ | exact Nat.le_refl _ | assumption | refine Below.drew ?_ | refine below_drewN ?_ _ | (refine Below.alloc ?_ (by first | exact Nat.le_refl _ | omega | (simp; done) | (simp; omega)) _) | (refine Below.setCell ?_ (by first | exact Nat.le_refl _ | omega | (simp; done) | (simp; omega)) _))

set_option linter.unusedVariables false in
set_option maxRecDepth 100000 in
theorem FnTalkSendTwice_lifted (os : Os) (started : os.Started) (H : Type) (enc : TypeId × Value → H) :
    ReturnsInHanded {} Try.checked os 14 .any (Rows.fnTalkSendTwiceSpec.pre6 enc Try.prog Try.f14 Rows.fnTalkSendTwiceRow.domain false) (Rows.fnTalkSendTwiceSpec.post enc Try.prog Try.f14 false true false false) := by
  refine returnsInHanded_of_change (C := Try.checked) own_knob started (by kernel_rfl) Try.func14
    (ChangeSpec.witness6 (enc := enc) (C := Try.checked) false ⟨#[], #[.slice none 0 0], []⟩ 8 (by kernel_rfl) (by kernel_rfl) (by kernel_rfl) (by kernel_rfl)) ?_
  intro W base args ds gs before hval0 hW hcnd _
  have hval : ∀ (j : Nat) t v, Try.f14.params[j]? = some t → args[j]? = some v → Value.okWide Try.prog W .any base t v := hval0
  have hW' := hW
  obtain ⟨p, q, hA0, hV, rfl, hfz, hnd⟩ := hW
  have hA : DataW.TrodAll enc Try.prog W 0 (fun _ => true) true Try.f14.params.toList args.toList ds p := hA0
  rw [Try.params14] at hA hval
  obtain ⟨v0, vs0, d0, ds0, p0, q0, hargs, rfl, rfl, h0, r0⟩ := trodAll_cons hA
  obtain ⟨rfl, rfl, rfl⟩ := trodAll_nil r0
  obtain rfl : args = #[v0] := by cases args; simp_all
  obtain ⟨rfl, rfl⟩ := trodVars_none hV
  have k0 := h0
  have lt0 : ∀ x ∈ p0, x.block < W.heap.size := by obtain ⟨m, hm⟩ := k0; exact DataW.trod_lt m _ _ _ hm
  obtain ⟨a0, len0, cap0, rfl⟩ := okWide_slice Try.underlying22 (hval 0 22 v0 rfl rfl)
  obtain ⟨z0, rfl, lc0, lm0, rz0⟩ : ∃ z : List Int, len0 = z.length ∧ z.length ≤ cap0 ∧ cap0 ≤ maxLen ∧ Bytes W a0 z := by
    obtain ⟨fuel, hf⟩ := h0
    obtain ⟨ao, cap, z, e, h1, h2, h3⟩ := rd_bytes hf
    simp [Value.cells] at e
    obtain ⟨rfl, rfl, rfl⟩ := e
    exact ⟨z, rfl, h1, h2, h3⟩
  have lb0 : z0.length ≤ cap0 := lc0
  clear hA0 hval0
  refine (FnTalkSendTwice_walk a0 z0 cap0 W rz0 lc0 lm0).mono fun e W' ⟨he, bel⟩ => ?_
  subst he
  exact ⟨_, rfl, _, _, _, [], _, [], hW', trodAll_mk1 (shut_bool Try.underlying4 _), (trodAll_cons_mk (Below.trod laid_out (by kernel_rfl) (of_decide_eq_true (by kernel_rfl)) k0 bel lt0) trodAll_mk0), rfl, bel.frame _, fun h => by cases h⟩

theorem FnTalkSendTwice_holds : Rows.FnTalkSendTwiceSaid :=
  OpenClaim.holds_of_wide 14 Try.f14 rfl rfl rfl rfl rfl rfl rfl ⟨rfl, rfl, rfl, rfl, rfl⟩ rfl rfl rfl rfl rfl (by kernel_rfl) Try.func14 (by kernel_rfl)
    (of_decide_eq_true (by kernel_rfl)) (by unfold Func.isWrapper; first | (rw [if_pos (by decide +kernel)]; kernel_rfl) | (rw [if_neg (by decide +kernel)]; exact ⟨rfl, rfl⟩))
    (fun os started H enc _ => FnTalkSendTwice_lifted os started H enc)
end Go.Proofs.Ytjamcfnclnpdkaa
