/- FnTalkAnswerOld: for every code, what the statement says of an answer. No condition. -/
import Derived.Test.YtjamcfnclnpdkaaTalkDraw3
import Derived.Test.YtjamcfnclnpdkaaSaidB
namespace Go.Proofs.Ytjamcfnclnpdkaa
open Go.ChangeShapes Go.WideShapes Go.ChangeAt Go.RowKit

set_option maxHeartbeats 4000000 in
set_option maxRecDepth 100000 in
theorem FnTalkAnswerOld_walk (a0 : Option Addr) (z0 : List Int) (cap0 : Nat) (w : World) (rz0 : Bytes w a0 z0) (lc0 : z0.length ≤ cap0) (_lm0 : cap0 ≤ maxLen) :
    Calls Try.prog 7 #[.slice a0 z0.length cap0] w fun e w' => e = .returned (.bool true) ∧ Below w.heap.size w w' := by
  unfold maxLen at _lm0
  by_cases hn0 : (z0.length : Int) ≤ 1048576
  case neg =>
    have hn0' : (1048576 : Int) < (z0.length : Int) := by omega
    go_enter Try.func7, Try.ntmps7
    go_wp2
    go_ret
    exact ⟨rfl, Below.refl _ _⟩
  go_enter Try.func7, Try.ntmps7
  have B1 : Below w.heap.size w w := Below.refl _ _
  go_wp2_with fail
  refine (drawTalkAnswer_any a0 z0 cap0 w rz0 lc0 (by omega)).mono ?_
  rintro e w2 ⟨n, t, a, xs, c, k, rfl, lx, k0, k1, ix, b3⟩
  have zw2 := b3.size
  have B4 := B1.trans (b3.mono B1.size)
  clear B1
  cases hB : ansB n t xs k
  · have HI := Lib.hid (fun v h => implTalkAnswer_any n t k a xs c v h (by omega))
    have HJ := Lib.hid (fun v h => specTalkAnswer_any n t k a xs c v h (by omega))
    have hN : ansN n t xs k = 0 := by simp [ansN, hB]
    rw [hN, hB] at HI HJ
    clear hN hB
    go_wp2_with fail
    refine name_calls fun W5 hW5 => ?_
    have zW5 : W5.heap.size = w2.heap.size + 1 := by rw [hW5]; simp
    have H60 := (heap_new_at w2 (.cells #[.int .i64 n, .int .i64 t, .slice a xs.length c] 25 (0, 0)) (w2.heap.size) (by simp))
    rw [← hW5] at H60
    have H6 := Lib.hid H60
    clear H60
    have B7 := (below_alloc3 B4 (.cells #[.int .i64 n, .int .i64 t, .slice a xs.length c] 25 (0, 0)))
    rw [← hW5] at B7
    clear B4
    replace ix := (Ints.keep ix (Keeps.alloc _ (.cells #[.int .i64 n, .int .i64 t, .slice a xs.length c] 25 (0, 0))))
    rw [← hW5] at ix
    clear hW5
    refine (HI.out W5 ix).mono ?_
    rintro e w8 ⟨rfl, b9⟩
    have zw8 := b9.size
    have B10 := B7.trans (b9.mono B7.size)
    clear B7
    replace H6 := Lib.hid ((b9.block _ (Array.getElem?_eq_some_iff.1 H6.out).1).trans H6.out)
    replace ix := Ints.below ix b9
    obtain ⟨cc11, cc12, cc13⟩ := cells3 H6.out
    have ll14 := (Array.getElem?_eq_some_iff.1 H6.out).1
    go_wp2_with fail
    clear cc11 cc12 cc13 ll14
    refine name_calls fun W15 hW15 => ?_
    have zW15 : W15.heap.size = w8.heap.size + 1 := by rw [hW15]; simp
    have H160 := (heap_new_at w8 (.cells #[.int .i64 0, .int .i64 0, .slice none 0 0] 25 (0, 0)) (w8.heap.size) (by simp))
    rw [← hW15] at H160
    have H16 := Lib.hid H160
    clear H160
    have B17 := (below_alloc3 B10 (.cells #[.int .i64 0, .int .i64 0, .slice none 0 0] 25 (0, 0)))
    rw [← hW15] at B17
    clear B10
    have H60 := (box_alloc H6.out (.cells #[.int .i64 0, .int .i64 0, .slice none 0 0] 25 (0, 0)))
    rw [← hW15] at H60
    clear H6
    have H6 := Lib.hid H60
    clear H60
    replace ix := (Ints.keep ix (Keeps.alloc _ (.cells #[.int .i64 0, .int .i64 0, .slice none 0 0] 25 (0, 0))))
    rw [← hW15] at ix
    clear hW15
    refine (HJ.out W15 ix).mono ?_
    rintro e w18 ⟨a2, c2, rfl, o2, b19⟩
    have zw18 := b19.size
    have B20 := B17.trans (b19.mono B17.size)
    clear B17
    replace H6 := Lib.hid ((b19.block _ (Array.getElem?_eq_some_iff.1 H6.out).1).trans H6.out)
    replace H16 := Lib.hid ((b19.block _ (Array.getElem?_eq_some_iff.1 H16.out).1).trans H16.out)
    replace ix := Ints.below ix b19
    have i2 : Ints w18 a2 [] := own_cells o2
    clear o2
    obtain ⟨cc21, cc22, cc23⟩ := cells3 H16.out
    have ll24 := (Array.getElem?_eq_some_iff.1 H16.out).1
    go_wp2_with fail
    clear cc21 cc22 cc23 ll24
    refine name_calls fun W25 hW25 => ?_
    have zW25 : W25.heap.size = w18.heap.size + 1 := by rw [hW25]; simp
    have H260 := (heap_new_at w18 (.cells #[.int .i64 0, .int .i64 0, .slice a2 0 c2] 25 (0, 0)) (w18.heap.size) (by simp))
    rw [← hW25] at H260
    have H26 := Lib.hid H260
    clear H260
    have B27 := (below_alloc3 B20 (.cells #[.int .i64 0, .int .i64 0, .slice a2 0 c2] 25 (0, 0)))
    rw [← hW25] at B27
    clear B20
    have H60 := (box_alloc H6.out (.cells #[.int .i64 0, .int .i64 0, .slice a2 0 c2] 25 (0, 0)))
    rw [← hW25] at H60
    clear H6
    have H6 := Lib.hid H60
    clear H60
    have H160 := (box_alloc H16.out (.cells #[.int .i64 0, .int .i64 0, .slice a2 0 c2] 25 (0, 0)))
    rw [← hW25] at H160
    clear H16
    have H16 := Lib.hid H160
    clear H160
    replace ix := (Ints.keep ix (Keeps.alloc _ (.cells #[.int .i64 0, .int .i64 0, .slice a2 0 c2] 25 (0, 0))))
    rw [← hW25] at ix
    replace i2 := (Ints.keep i2 (Keeps.alloc _ (.cells #[.int .i64 0, .int .i64 0, .slice a2 0 c2] 25 (0, 0))))
    rw [← hW25] at i2
    clear hW25
    refine (sameTalk_any 0 0 0 0 none a2 [] [] 0 c2 W25 (Cells.nil _ _) i2 (by simp) (by simp)).mono ?_
    rintro e w28 ⟨rfl, b29⟩
    have zw28 := b29.size
    have B30 := B27.trans (b29.mono B27.size)
    clear B27
    replace H6 := Lib.hid ((b29.block _ (Array.getElem?_eq_some_iff.1 H6.out).1).trans H6.out)
    replace H16 := Lib.hid ((b29.block _ (Array.getElem?_eq_some_iff.1 H16.out).1).trans H16.out)
    replace H26 := Lib.hid ((b29.block _ (Array.getElem?_eq_some_iff.1 H26.out).1).trans H26.out)
    replace ix := Ints.below ix b29
    replace i2 := Ints.below i2 b29
    obtain ⟨cc31, cc32, cc33⟩ := cells3 H16.out
    have ll34 := (Array.getElem?_eq_some_iff.1 H16.out).1
    obtain ⟨cc35, cc36, cc37⟩ := cells3 H26.out
    have ll38 := (Array.getElem?_eq_some_iff.1 H26.out).1
    go_wp2_with fail
    clear cc31 cc32 cc33 ll34 cc35 cc36 cc37 ll38
    refine (sameTalk_any 0 0 0 0 none a2 [] [] 0 c2 w28 (Cells.nil _ _) i2 (by simp) (by simp)).mono ?_
    rintro e w39 ⟨rfl, b40⟩
    have zw39 := b40.size
    have B41 := B30.trans (b40.mono B30.size)
    clear B30
    replace H6 := Lib.hid ((b40.block _ (Array.getElem?_eq_some_iff.1 H6.out).1).trans H6.out)
    replace H16 := Lib.hid ((b40.block _ (Array.getElem?_eq_some_iff.1 H16.out).1).trans H16.out)
    replace H26 := Lib.hid ((b40.block _ (Array.getElem?_eq_some_iff.1 H26.out).1).trans H26.out)
    replace ix := Ints.below ix b40
    replace i2 := Ints.below i2 b40
    go_wp2
    go_ret
    exact ⟨rfl, B41⟩
  · obtain ⟨hv, t0, rfl⟩ : talkB n t xs = true ∧ 0 < t ∧ n = k := by
      simp only [ansB, Bool.and_eq_true, decide_eq_true_eq] at hB
      exact ⟨hB.1, hB.2.1, hB.2.2.symm⟩
    have HI := Lib.hid (fun v h => implTalkAnswer_any n t n a xs c v h (by omega))
    have HJ := Lib.hid (fun v h => specTalkAnswer_any n t n a xs c v h (by omega))
    have hN : ansN n t xs n = 1 - n := by simp [ansN, hB]
    rw [hN, hB] at HI HJ
    have tf := talkB_facts hv
    have n0 := tf.1.1
    have n1 := tf.1.2
    clear hN hB tf
    go_wp2_with fail
    refine name_calls fun W42 hW42 => ?_
    have zW42 : W42.heap.size = w2.heap.size + 1 := by rw [hW42]; simp
    have H430 := (heap_new_at w2 (.cells #[.int .i64 n, .int .i64 t, .slice a xs.length c] 25 (0, 0)) (w2.heap.size) (by simp))
    rw [← hW42] at H430
    have H43 := Lib.hid H430
    clear H430
    have B44 := (below_alloc3 B4 (.cells #[.int .i64 n, .int .i64 t, .slice a xs.length c] 25 (0, 0)))
    rw [← hW42] at B44
    clear B4
    replace ix := (Ints.keep ix (Keeps.alloc _ (.cells #[.int .i64 n, .int .i64 t, .slice a xs.length c] 25 (0, 0))))
    rw [← hW42] at ix
    clear hW42
    refine (HI.out W42 ix).mono ?_
    rintro e w45 ⟨rfl, b46⟩
    have zw45 := b46.size
    have B47 := B44.trans (b46.mono B44.size)
    clear B44
    replace H43 := Lib.hid ((b46.block _ (Array.getElem?_eq_some_iff.1 H43.out).1).trans H43.out)
    replace ix := Ints.below ix b46
    obtain ⟨cc48, cc49, cc50⟩ := cells3 H43.out
    have ll51 := (Array.getElem?_eq_some_iff.1 H43.out).1
    go_wp2_with fail
    clear cc48 cc49 cc50 ll51
    refine name_calls fun W52 hW52 => ?_
    have zW52 : W52.heap.size = w45.heap.size + 1 := by rw [hW52]; simp
    have H530 := (heap_new_at w45 (.cells #[.int .i64 (1 - n), .int .i64 0, .slice none 0 0] 25 (0, 0)) (w45.heap.size) (by simp))
    rw [← hW52] at H530
    have H53 := Lib.hid H530
    clear H530
    have B54 := (below_alloc3 B47 (.cells #[.int .i64 (1 - n), .int .i64 0, .slice none 0 0] 25 (0, 0)))
    rw [← hW52] at B54
    clear B47
    have H430 := (box_alloc H43.out (.cells #[.int .i64 (1 - n), .int .i64 0, .slice none 0 0] 25 (0, 0)))
    rw [← hW52] at H430
    clear H43
    have H43 := Lib.hid H430
    clear H430
    replace ix := (Ints.keep ix (Keeps.alloc _ (.cells #[.int .i64 (1 - n), .int .i64 0, .slice none 0 0] 25 (0, 0))))
    rw [← hW52] at ix
    clear hW52
    refine (HJ.out W52 ix).mono ?_
    rintro e w55 ⟨a2, c2, rfl, o2, b56⟩
    have zw55 := b56.size
    have B57 := B54.trans (b56.mono B54.size)
    clear B54
    replace H43 := Lib.hid ((b56.block _ (Array.getElem?_eq_some_iff.1 H43.out).1).trans H43.out)
    replace H53 := Lib.hid ((b56.block _ (Array.getElem?_eq_some_iff.1 H53.out).1).trans H53.out)
    replace ix := Ints.below ix b56
    have i2 : Ints w55 a2 [] := own_cells o2
    clear o2
    obtain ⟨cc58, cc59, cc60⟩ := cells3 H53.out
    have ll61 := (Array.getElem?_eq_some_iff.1 H53.out).1
    go_wp2_with fail
    clear cc58 cc59 cc60 ll61
    refine name_calls fun W62 hW62 => ?_
    have zW62 : W62.heap.size = w55.heap.size + 1 := by rw [hW62]; simp
    have H630 := (heap_new_at w55 (.cells #[.int .i64 (1 - n), .int .i64 0, .slice a2 0 c2] 25 (0, 0)) (w55.heap.size) (by simp))
    rw [← hW62] at H630
    have H63 := Lib.hid H630
    clear H630
    have B64 := (below_alloc3 B57 (.cells #[.int .i64 (1 - n), .int .i64 0, .slice a2 0 c2] 25 (0, 0)))
    rw [← hW62] at B64
    clear B57
    have H430 := (box_alloc H43.out (.cells #[.int .i64 (1 - n), .int .i64 0, .slice a2 0 c2] 25 (0, 0)))
    rw [← hW62] at H430
    clear H43
    have H43 := Lib.hid H430
    clear H430
    have H530 := (box_alloc H53.out (.cells #[.int .i64 (1 - n), .int .i64 0, .slice a2 0 c2] 25 (0, 0)))
    rw [← hW62] at H530
    clear H53
    have H53 := Lib.hid H530
    clear H530
    replace ix := (Ints.keep ix (Keeps.alloc _ (.cells #[.int .i64 (1 - n), .int .i64 0, .slice a2 0 c2] 25 (0, 0))))
    rw [← hW62] at ix
    replace i2 := (Ints.keep i2 (Keeps.alloc _ (.cells #[.int .i64 (1 - n), .int .i64 0, .slice a2 0 c2] 25 (0, 0))))
    rw [← hW62] at i2
    clear hW62
    refine (sameTalk_any (1 - n) 0 (1 - n) 0 none a2 [] [] 0 c2 W62 (Cells.nil _ _) i2 (by simp) (by simp)).mono ?_
    rintro e w65 ⟨rfl, b66⟩
    have zw65 := b66.size
    have B67 := B64.trans (b66.mono B64.size)
    clear B64
    replace H43 := Lib.hid ((b66.block _ (Array.getElem?_eq_some_iff.1 H43.out).1).trans H43.out)
    replace H53 := Lib.hid ((b66.block _ (Array.getElem?_eq_some_iff.1 H53.out).1).trans H53.out)
    replace H63 := Lib.hid ((b66.block _ (Array.getElem?_eq_some_iff.1 H63.out).1).trans H63.out)
    replace ix := Ints.below ix b66
    replace i2 := Ints.below i2 b66
    have h1 : ansB n t xs (1 - n) = false := by simp [ansB]; intro _ _; omega
    have h2 : ansB (1 - n) 0 [] 0 = false := by simp [ansB]
    have h3 : ansB (1 - n) 0 [] 1 = false := by simp [ansB]
    have H1 := Lib.hid (fun v h => implTalkAnswer_any n t (1 - n) a xs c v h (by omega))
    have H2 := Lib.hid (fun v => implTalkAnswer_any (1 - n) 0 0 none [] 0 v (Cells.nil _ _) (by simp))
    have H3 := Lib.hid (fun v => implTalkAnswer_any (1 - n) 0 1 none [] 0 v (Cells.nil _ _) (by simp))
    rw [show ansN n t xs (1 - n) = 0 by simp [ansN, h1], h1] at H1
    rw [show ansN (1 - n) 0 [] 0 = 0 by simp [ansN, h2], h2] at H2
    rw [show ansN (1 - n) 0 [] 1 = 0 by simp [ansN, h3], h3] at H3
    clear h1 h2 h3
    obtain ⟨cc68, cc69, cc70⟩ := cells3 H43.out
    have ll71 := (Array.getElem?_eq_some_iff.1 H43.out).1
    go_wp2_with fail
    clear cc68 cc69 cc70 ll71
    refine (H1.out w65 ix).mono ?_
    rintro e w72 ⟨rfl, b73⟩
    have zw72 := b73.size
    have B74 := B67.trans (b73.mono B67.size)
    clear B67
    replace H43 := Lib.hid ((b73.block _ (Array.getElem?_eq_some_iff.1 H43.out).1).trans H43.out)
    replace H53 := Lib.hid ((b73.block _ (Array.getElem?_eq_some_iff.1 H53.out).1).trans H53.out)
    replace H63 := Lib.hid ((b73.block _ (Array.getElem?_eq_some_iff.1 H63.out).1).trans H63.out)
    replace ix := Ints.below ix b73
    replace i2 := Ints.below i2 b73
    obtain ⟨cc75, cc76, cc77⟩ := cells3 H53.out
    have ll78 := (Array.getElem?_eq_some_iff.1 H53.out).1
    go_wp2_with fail
    clear cc75 cc76 cc77 ll78
    refine name_calls fun W79 hW79 => ?_
    have zW79 : W79.heap.size = w72.heap.size + 1 := by rw [hW79]; simp
    have H800 := (heap_new_at w72 (.cells #[.int .i64 0, .int .i64 0, .slice none 0 0] 25 (0, 0)) (w72.heap.size) (by simp))
    rw [← hW79] at H800
    have H80 := Lib.hid H800
    clear H800
    have B81 := (below_alloc3 B74 (.cells #[.int .i64 0, .int .i64 0, .slice none 0 0] 25 (0, 0)))
    rw [← hW79] at B81
    clear B74
    have H430 := (box_alloc H43.out (.cells #[.int .i64 0, .int .i64 0, .slice none 0 0] 25 (0, 0)))
    rw [← hW79] at H430
    clear H43
    have H43 := Lib.hid H430
    clear H430
    have H530 := (box_alloc H53.out (.cells #[.int .i64 0, .int .i64 0, .slice none 0 0] 25 (0, 0)))
    rw [← hW79] at H530
    clear H53
    have H53 := Lib.hid H530
    clear H530
    have H630 := (box_alloc H63.out (.cells #[.int .i64 0, .int .i64 0, .slice none 0 0] 25 (0, 0)))
    rw [← hW79] at H630
    clear H63
    have H63 := Lib.hid H630
    clear H630
    replace ix := (Ints.keep ix (Keeps.alloc _ (.cells #[.int .i64 0, .int .i64 0, .slice none 0 0] 25 (0, 0))))
    rw [← hW79] at ix
    replace i2 := (Ints.keep i2 (Keeps.alloc _ (.cells #[.int .i64 0, .int .i64 0, .slice none 0 0] 25 (0, 0))))
    rw [← hW79] at i2
    clear hW79
    refine (H2.out W79).mono ?_
    rintro e w82 ⟨rfl, b83⟩
    have zw82 := b83.size
    have B84 := B81.trans (b83.mono B81.size)
    clear B81
    replace H43 := Lib.hid ((b83.block _ (Array.getElem?_eq_some_iff.1 H43.out).1).trans H43.out)
    replace H53 := Lib.hid ((b83.block _ (Array.getElem?_eq_some_iff.1 H53.out).1).trans H53.out)
    replace H63 := Lib.hid ((b83.block _ (Array.getElem?_eq_some_iff.1 H63.out).1).trans H63.out)
    replace H80 := Lib.hid ((b83.block _ (Array.getElem?_eq_some_iff.1 H80.out).1).trans H80.out)
    replace ix := Ints.below ix b83
    replace i2 := Ints.below i2 b83
    obtain ⟨cc85, cc86, cc87⟩ := cells3 H53.out
    have ll88 := (Array.getElem?_eq_some_iff.1 H53.out).1
    go_wp2_with fail
    clear cc85 cc86 cc87 ll88
    refine name_calls fun W89 hW89 => ?_
    have zW89 : W89.heap.size = w82.heap.size + 1 := by rw [hW89]; simp
    have H900 := (heap_new_at w82 (.cells #[.int .i64 0, .int .i64 0, .slice none 0 0] 25 (0, 0)) (w82.heap.size) (by simp))
    rw [← hW89] at H900
    have H90 := Lib.hid H900
    clear H900
    have B91 := (below_alloc3 B84 (.cells #[.int .i64 0, .int .i64 0, .slice none 0 0] 25 (0, 0)))
    rw [← hW89] at B91
    clear B84
    have H430 := (box_alloc H43.out (.cells #[.int .i64 0, .int .i64 0, .slice none 0 0] 25 (0, 0)))
    rw [← hW89] at H430
    clear H43
    have H43 := Lib.hid H430
    clear H430
    have H530 := (box_alloc H53.out (.cells #[.int .i64 0, .int .i64 0, .slice none 0 0] 25 (0, 0)))
    rw [← hW89] at H530
    clear H53
    have H53 := Lib.hid H530
    clear H530
    have H630 := (box_alloc H63.out (.cells #[.int .i64 0, .int .i64 0, .slice none 0 0] 25 (0, 0)))
    rw [← hW89] at H630
    clear H63
    have H63 := Lib.hid H630
    clear H630
    have H800 := (box_alloc H80.out (.cells #[.int .i64 0, .int .i64 0, .slice none 0 0] 25 (0, 0)))
    rw [← hW89] at H800
    clear H80
    have H80 := Lib.hid H800
    clear H800
    replace ix := (Ints.keep ix (Keeps.alloc _ (.cells #[.int .i64 0, .int .i64 0, .slice none 0 0] 25 (0, 0))))
    rw [← hW89] at ix
    replace i2 := (Ints.keep i2 (Keeps.alloc _ (.cells #[.int .i64 0, .int .i64 0, .slice none 0 0] 25 (0, 0))))
    rw [← hW89] at i2
    clear hW89
    refine (H3.out W89).mono ?_
    rintro e w92 ⟨rfl, b93⟩
    have zw92 := b93.size
    have B94 := B91.trans (b93.mono B91.size)
    clear B91
    replace H43 := Lib.hid ((b93.block _ (Array.getElem?_eq_some_iff.1 H43.out).1).trans H43.out)
    replace H53 := Lib.hid ((b93.block _ (Array.getElem?_eq_some_iff.1 H53.out).1).trans H53.out)
    replace H63 := Lib.hid ((b93.block _ (Array.getElem?_eq_some_iff.1 H63.out).1).trans H63.out)
    replace H80 := Lib.hid ((b93.block _ (Array.getElem?_eq_some_iff.1 H80.out).1).trans H80.out)
    replace H90 := Lib.hid ((b93.block _ (Array.getElem?_eq_some_iff.1 H90.out).1).trans H90.out)
    replace ix := Ints.below ix b93
    replace i2 := Ints.below i2 b93
    go_wp2
    go_ret
    refine ⟨rfl, ?_⟩
    repeat' (first | exact Below.refl _ _ | exact Nat.le_refl _ | assumption | refine Below.drew ?_ | refine below_drewN ?_ _ | (refine Below.alloc ?_ (by first | exact Nat.le_refl _ | omega | (simp; done) | (simp; omega)) _) | (refine Below.setCell ?_ (by first | exact Nat.le_refl _ | omega | (simp; done) | (simp; omega)) _))

set_option linter.unusedVariables false in
set_option maxRecDepth 100000 in
theorem FnTalkAnswerOld_lifted (os : Os) (started : os.Started) (H : Type) (enc : TypeId × Value → H) :
    ReturnsInHanded {} Try.checked os 7 .any (Rows.fnTalkAnswerOldSpec.pre6 enc Try.prog Try.f7 Rows.fnTalkAnswerOldRow.domain false) (Rows.fnTalkAnswerOldSpec.post enc Try.prog Try.f7 false true false false) := by
  refine returnsInHanded_of_change (C := Try.checked) own_knob started (by kernel_rfl) Try.func7
    (ChangeSpec.witness6 (enc := enc) (C := Try.checked) false ⟨#[], #[.slice none 0 0], []⟩ 8 (by kernel_rfl) (by kernel_rfl) (by kernel_rfl) (by kernel_rfl)) ?_
  intro W base args ds gs before hval0 hW hcnd _
  have hval : ∀ (j : Nat) t v, Try.f7.params[j]? = some t → args[j]? = some v → Value.okWide Try.prog W .any base t v := hval0
  have hW' := hW
  obtain ⟨p, q, hA0, hV, rfl, hfz, hnd⟩ := hW
  have hA : DataW.TrodAll enc Try.prog W 0 (fun _ => true) true Try.f7.params.toList args.toList ds p := hA0
  rw [Try.params7] at hA hval
  obtain ⟨v0, vs0, d0, ds0, p0, q0, hargs, rfl, rfl, h0, r0⟩ := trodAll_cons hA
  obtain ⟨rfl, rfl, rfl⟩ := trodAll_nil r0
  obtain rfl : args = #[v0] := by cases args; simp_all
  obtain ⟨rfl, rfl⟩ := trodVars_none hV
  have k0 := h0
  have lt0 : ∀ x ∈ p0, x.block < W.heap.size := by obtain ⟨m, hm⟩ := k0; exact DataW.trod_lt m _ _ _ hm
  obtain ⟨a0, len0, cap0, rfl⟩ := okWide_slice Try.underlying22 (hval 0 22 v0 rfl rfl)
  obtain ⟨z0, rfl, lc0, lm0, rz0⟩ : ∃ z : List Int, len0 = z.length ∧ z.length ≤ cap0 ∧ cap0 ≤ maxLen ∧ Bytes W a0 z := by
    obtain ⟨fuel, hf⟩ := h0
    obtain ⟨ao, cap, z, e, h1, h2, h3⟩ := rd_bytes hf
    simp [Value.cells] at e
    obtain ⟨rfl, rfl, rfl⟩ := e
    exact ⟨z, rfl, h1, h2, h3⟩
  have lb0 : z0.length ≤ cap0 := lc0
  clear hA0 hval0
  refine (FnTalkAnswerOld_walk a0 z0 cap0 W rz0 lc0 lm0).mono fun e W' ⟨he, bel⟩ => ?_
  subst he
  exact ⟨_, rfl, _, _, _, [], _, [], hW', trodAll_mk1 (shut_bool Try.underlying4 _), (trodAll_cons_mk (Below.trod laid_out (by kernel_rfl) (of_decide_eq_true (by kernel_rfl)) k0 bel lt0) trodAll_mk0), rfl, bel.frame _, fun h => by cases h⟩

theorem FnTalkAnswerOld_holds : Rows.FnTalkAnswerOldSaid :=
  OpenClaim.holds_of_wide 7 Try.f7 rfl rfl rfl rfl rfl rfl rfl ⟨rfl, rfl, rfl, rfl, rfl⟩ rfl rfl rfl rfl rfl (by kernel_rfl) Try.func7 (by kernel_rfl)
    (of_decide_eq_true (by kernel_rfl)) (by unfold Func.isWrapper; first | (rw [if_pos (by decide +kernel)]; kernel_rfl) | (rw [if_neg (by decide +kernel)]; exact ⟨rfl, rfl⟩))
    (fun os started H enc _ => FnTalkAnswerOld_lifted os started H enc)
end Go.Proofs.Ytjamcfnclnpdkaa
