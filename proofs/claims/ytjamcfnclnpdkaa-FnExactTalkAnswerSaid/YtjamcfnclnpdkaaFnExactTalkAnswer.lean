/- FnExactTalkAnswer: for all arguments the program's TalkAnswer answers what the reference's answers, leaves its arguments as they were, and its result shares no memory. No condition. -/
import Derived.Test.YtjamcfnclnpdkaaTalk7
import Derived.Test.YtjamcfnclnpdkaaSaidB
namespace Go.Proofs.Ytjamcfnclnpdkaa
open Go.ChangeShapes Go.WideShapes Go.ChangeAt Go.RowKit

set_option maxHeartbeats 4000000 in
set_option maxRecDepth 100000 in
theorem FnExactTalkAnswer_walk (n0 : Int) (t0 : Int) (a0 : Option Addr) (z0 : List Int) (cap0 : Nat) (x1 : Int) (w : World) (rz0 : Ints w a0 z0) (_lc0 : z0.length ≤ cap0) (lm0 : cap0 ≤ maxLen) (_wx1 : -9223372036854775808 ≤ x1 ∧ x1 ≤ 9223372036854775807) :
    Calls Try.prog 8 #[.agg #[.int .i64 n0, .int .i64 t0, .slice a0 z0.length cap0], .int .i64 x1] w fun e w' => e = .returned (.bool true) ∧ Below w.heap.size w w' := by
  unfold maxLen at lm0
  by_cases hn0 : (z0.length : Int) ≤ 1048576
  case neg =>
    have hn0' : (1048576 : Int) < (z0.length : Int) := by omega
    go_enter Try.func8, Try.ntmps8
    go_wp2_with fail
    refine name_calls fun W1 hW1 => ?_
    have B2 : Below w.heap.size w W1 := by
      rw [hW1]
      repeat' (first | exact Below.refl _ _ | exact Nat.le_refl _ | assumption | refine Below.drew ?_ | refine below_drewN ?_ _ | (refine Below.alloc ?_ (by first | exact Nat.le_refl _ | omega | (simp; done) | (simp; omega)) _) | (refine Below.setCell ?_ (by first | exact Nat.le_refl _ | omega | (simp; done) | (simp; omega)) _))
    have H3 := Lib.hid (show W1.heap[w.heap.size]? = some (.cells #[.int .i64 n0, .int .i64 t0, .slice a0 z0.length cap0] 29 (0, 0)) by rw [hW1]; exact heap_new_at _ _ _ rfl)
    have zW1 : W1.heap.size = w.heap.size + 1 := by rw [hW1]; simp
    clear hW1
    refine (szTalk_no n0 t0 a0 _ cap0 1048576 W1 hn0' (by omega) (by omega)).mono ?_
    rintro e w5 ⟨rfl, b4⟩
    have zw5 := b4.size
    have B6 := B2.trans (b4.mono B2.size)
    clear B2
    replace H3 := Lib.hid ((b4.block _ (Array.getElem?_eq_some_iff.1 H3.out).1).trans H3.out)
    go_wp2
    go_ret
    exact ⟨rfl, B6⟩
  go_enter Try.func8, Try.ntmps8
  go_wp2_with fail
  refine name_calls fun W7 hW7 => ?_
  have B8 : Below w.heap.size w W7 := by
    rw [hW7]
    repeat' (first | exact Below.refl _ _ | exact Nat.le_refl _ | assumption | refine Below.drew ?_ | refine below_drewN ?_ _ | (refine Below.alloc ?_ (by first | exact Nat.le_refl _ | omega | (simp; done) | (simp; omega)) _) | (refine Below.setCell ?_ (by first | exact Nat.le_refl _ | omega | (simp; done) | (simp; omega)) _))
  have H9 := Lib.hid (show W7.heap[w.heap.size]? = some (.cells #[.int .i64 n0, .int .i64 t0, .slice a0 z0.length cap0] 29 (0, 0)) by rw [hW7]; exact heap_new_at _ _ _ rfl)
  have zW7 : W7.heap.size = w.heap.size + 1 := by rw [hW7]; simp
  clear hW7
  refine (szTalk_yes n0 t0 a0 _ cap0 1048576 W7 hn0 (by omega)).mono ?_
  rintro e w11 ⟨rfl, b10⟩
  have zw11 := b10.size
  have B12 := B8.trans (b10.mono B8.size)
  clear B8
  replace H9 := Lib.hid ((b10.block _ (Array.getElem?_eq_some_iff.1 H9.out).1).trans H9.out)
  have lr0 := noInts_len
  obtain ⟨cc13, cc14, cc15⟩ := cells3 H9.out
  go_wp2_with fail
  clear cc13 cc14 cc15
  refine (toTalk_any n0 t0 a0 z0 cap0 w11 (rz0.below B12) (by omega)).mono ?_
  rintro e w20 ⟨a16, c17, rfl, o18, b19⟩
  have zw20 := b19.size
  have B21 := B12.trans (b19.mono B12.size)
  clear B12
  replace H9 := Lib.hid ((b19.block _ (Array.getElem?_eq_some_iff.1 H9.out).1).trans H9.out)
  have io18 := own_in o18
  go_wp2_with fail
  refine (specTalkAnswer_x n0 t0 a16 z0 c17 _ x1 w20 o18 (by omega)).mono ?_
  rintro e w26 ⟨a22, c23, rfl, o24, b25⟩
  have zw26 := b25.size
  have B27 := B21.trans (b25.mono B21.size)
  clear B21
  replace o18 := own_below o18 b25
  replace H9 := Lib.hid ((b25.block _ (Array.getElem?_eq_some_iff.1 H9.out).1).trans H9.out)
  have io24 := own_in o24
  clear o18
  obtain ⟨cc28, cc29, cc30⟩ := cells3 H9.out
  have ll31 := (Array.getElem?_eq_some_iff.1 H9.out).1
  go_wp2_with fail
  clear cc28 cc29 cc30 ll31
  refine name_calls fun W37 hW37 => ?_
  have zW37 : W37.heap.size = w26.heap.size + 1 := by rw [hW37]; simp
  have H380 := heap_new_at w26 (.cells #[.int .i64 (ansN n0 t0 z0 x1), .int .i64 0, .slice a22 noInts.length c23] 25 (0, 0)) _ rfl
  rw [← hW37] at H380
  have H38 := Lib.hid H380
  clear H380
  have B39 := B27.alloc B27.size (.cells #[.int .i64 (ansN n0 t0 z0 x1), .int .i64 0, .slice a22 noInts.length c23] 25 (0, 0))
  rw [← hW37] at B39
  clear B27
  replace o24 := World.ownsRow.alloc o24 (.cells #[.int .i64 (ansN n0 t0 z0 x1), .int .i64 0, .slice a22 noInts.length c23] 25 (0, 0))
  rw [← hW37] at o24
  have H90 := (Below.heap_alloc w26 (.cells #[.int .i64 (ansN n0 t0 z0 x1), .int .i64 0, .slice a22 noInts.length c23] 25 (0, 0)) _ (Array.getElem?_eq_some_iff.1 H9.out).1).trans H9.out
  rw [← hW37] at H90
  clear H9
  have H9 := Lib.hid H90
  clear H90
  clear hW37
  refine (toTalk_any n0 t0 a0 z0 cap0 W37 (rz0.below B39) (by omega)).mono ?_
  rintro e w36 ⟨a32, c33, rfl, o34, b35⟩
  have zw36 := b35.size
  have B40 := B39.trans (b35.mono B39.size)
  clear B39
  replace o24 := own_below o24 b35
  replace H9 := Lib.hid ((b35.block _ (Array.getElem?_eq_some_iff.1 H9.out).1).trans H9.out)
  replace H38 := Lib.hid ((b35.block _ (Array.getElem?_eq_some_iff.1 H38.out).1).trans H38.out)
  have io34 := own_in o34
  go_wp2_with fail
  refine name_calls fun W41 hW41 => ?_
  have zW41 : W41.heap.size = w36.heap.size + 1 := by rw [hW41]; simp
  have H420 := heap_new_at w36 (.cells #[.int .i64 n0, .int .i64 t0, .slice a32 z0.length c33] 25 (0, 0)) _ rfl
  rw [← hW41] at H420
  have H42 := Lib.hid H420
  clear H420
  have B43 := B40.alloc B40.size (.cells #[.int .i64 n0, .int .i64 t0, .slice a32 z0.length c33] 25 (0, 0))
  rw [← hW41] at B43
  clear B40
  replace o24 := World.ownsRow.alloc o24 (.cells #[.int .i64 n0, .int .i64 t0, .slice a32 z0.length c33] 25 (0, 0))
  rw [← hW41] at o24
  replace o34 := World.ownsRow.alloc o34 (.cells #[.int .i64 n0, .int .i64 t0, .slice a32 z0.length c33] 25 (0, 0))
  rw [← hW41] at o34
  have H90 := (Below.heap_alloc w36 (.cells #[.int .i64 n0, .int .i64 t0, .slice a32 z0.length c33] 25 (0, 0)) _ (Array.getElem?_eq_some_iff.1 H9.out).1).trans H9.out
  rw [← hW41] at H90
  clear H9
  have H9 := Lib.hid H90
  clear H90
  have H380 := (Below.heap_alloc w36 (.cells #[.int .i64 n0, .int .i64 t0, .slice a32 z0.length c33] 25 (0, 0)) _ (Array.getElem?_eq_some_iff.1 H38.out).1).trans H38.out
  rw [← hW41] at H380
  clear H38
  have H38 := Lib.hid H380
  clear H380
  clear hW41
  refine (implTalkAnswer_x n0 t0 a32 z0 c33 _ x1 W41 o34 (by omega)).mono ?_
  rintro e w48 ⟨a44, c45, rfl, o46, b47⟩
  have zw48 := b47.size
  have B49 := B43.trans (b47.mono B43.size)
  clear B43
  replace o24 := own_below o24 b47
  replace o34 := own_below o34 b47
  replace H9 := Lib.hid ((b47.block _ (Array.getElem?_eq_some_iff.1 H9.out).1).trans H9.out)
  replace H38 := Lib.hid ((b47.block _ (Array.getElem?_eq_some_iff.1 H38.out).1).trans H38.out)
  replace H42 := Lib.hid ((b47.block _ (Array.getElem?_eq_some_iff.1 H42.out).1).trans H42.out)
  have io46 := own_in o46
  obtain ⟨cc50, cc51, cc52⟩ := cells3 H38.out
  have ll53 := (Array.getElem?_eq_some_iff.1 H38.out).1
  go_wp2_with fail
  clear cc50 cc51 cc52 ll53
  refine name_calls fun W56 hW56 => ?_
  have zW56 : W56.heap.size = w48.heap.size + 1 := by rw [hW56]; simp
  have H570 := heap_new_at w48 (.cells #[.int .i64 (ansN n0 t0 z0 x1), .int .i64 0, .slice a44 noInts.length c45] 25 (0, 0)) _ rfl
  rw [← hW56] at H570
  have H57 := Lib.hid H570
  clear H570
  have B58 := B49.alloc B49.size (.cells #[.int .i64 (ansN n0 t0 z0 x1), .int .i64 0, .slice a44 noInts.length c45] 25 (0, 0))
  rw [← hW56] at B58
  clear B49
  replace o24 := World.ownsRow.alloc o24 (.cells #[.int .i64 (ansN n0 t0 z0 x1), .int .i64 0, .slice a44 noInts.length c45] 25 (0, 0))
  rw [← hW56] at o24
  replace o34 := World.ownsRow.alloc o34 (.cells #[.int .i64 (ansN n0 t0 z0 x1), .int .i64 0, .slice a44 noInts.length c45] 25 (0, 0))
  rw [← hW56] at o34
  replace o46 := World.ownsRow.alloc o46 (.cells #[.int .i64 (ansN n0 t0 z0 x1), .int .i64 0, .slice a44 noInts.length c45] 25 (0, 0))
  rw [← hW56] at o46
  have H90 := (Below.heap_alloc w48 (.cells #[.int .i64 (ansN n0 t0 z0 x1), .int .i64 0, .slice a44 noInts.length c45] 25 (0, 0)) _ (Array.getElem?_eq_some_iff.1 H9.out).1).trans H9.out
  rw [← hW56] at H90
  clear H9
  have H9 := Lib.hid H90
  clear H90
  have H380 := (Below.heap_alloc w48 (.cells #[.int .i64 (ansN n0 t0 z0 x1), .int .i64 0, .slice a44 noInts.length c45] 25 (0, 0)) _ (Array.getElem?_eq_some_iff.1 H38.out).1).trans H38.out
  rw [← hW56] at H380
  clear H38
  have H38 := Lib.hid H380
  clear H380
  have H420 := (Below.heap_alloc w48 (.cells #[.int .i64 (ansN n0 t0 z0 x1), .int .i64 0, .slice a44 noInts.length c45] 25 (0, 0)) _ (Array.getElem?_eq_some_iff.1 H42.out).1).trans H42.out
  rw [← hW56] at H420
  clear H42
  have H42 := Lib.hid H420
  clear H420
  clear hW56
  refine (eqTalk_any (ansN n0 t0 z0 x1) 0 (ansN n0 t0 z0 x1) 0 a44 a22 noInts noInts c45 c23 W56 (own_cells o46) (own_cells o24) (by omega) (by omega)).mono ?_
  rintro e w55 ⟨rfl, b54⟩
  have zw55 := b54.size
  have B59 := B58.trans (b54.mono B58.size)
  clear B58
  replace o24 := own_below o24 b54
  replace o34 := own_below o34 b54
  replace o46 := own_below o46 b54
  replace H9 := Lib.hid ((b54.block _ (Array.getElem?_eq_some_iff.1 H9.out).1).trans H9.out)
  replace H38 := Lib.hid ((b54.block _ (Array.getElem?_eq_some_iff.1 H38.out).1).trans H38.out)
  replace H42 := Lib.hid ((b54.block _ (Array.getElem?_eq_some_iff.1 H42.out).1).trans H42.out)
  replace H57 := Lib.hid ((b54.block _ (Array.getElem?_eq_some_iff.1 H57.out).1).trans H57.out)
  obtain ⟨cc60, cc61, cc62⟩ := cells3 H42.out
  obtain ⟨cc63, cc64, cc65⟩ := cells3 H9.out
  go_wp2_with fail
  go_region_held3 (fun v => v.cell? ⟨w36.heap.size, 0, none⟩ = some (.int .i64 n0) ∧ v.cell? ⟨w36.heap.size, 1, none⟩ = some (.int .i64 t0) ∧ v.cell? ⟨w36.heap.size, 2, none⟩ = some (.slice a32 z0.length c33) ∧ v.cell? ⟨w.heap.size, 0, none⟩ = some (.int .i64 n0) ∧ v.cell? ⟨w.heap.size, 1, none⟩ = some (.int .i64 t0) ∧ v.cell? ⟨w.heap.size, 2, none⟩ = some (.slice a0 z0.length cap0))
    (go_keep)
    (first
      | (go_at_call 19
         refine (toTalk_any n0 t0 a0 z0 cap0 _ (Cells.drew (rz0.below B59)) (by omega)).mono ?_
         rintro e w66 ⟨a68, c69, rfl, o70, b710⟩
         have b71 : Below w55.heap.size w55 w66 := (Below.refl _ w55).drew.trans b710
         have cc60A := Keeps.of_below b71 _ _ _ cc60
         have cc61A := Keeps.of_below b71 _ _ _ cc61
         have cc62A := Keeps.of_below b71 _ _ _ cc62
         have cc63A := Keeps.of_below b71 _ _ _ cc63
         have cc64A := Keeps.of_below b71 _ _ _ cc64
         have cc65A := Keeps.of_below b71 _ _ _ cc65
         skip)
      | (go_at_call 20
         refine (eqTalk_any n0 t0 n0 t0 a32 a68 z0 z0 c33 c69 _ (own_cells (own_below o34 b71)) (own_cells o70) (by omega) (by omega)).mono ?_
         rintro e w67 ⟨rfl, b72⟩
         have cc60B := Keeps.of_below b72 _ _ _ cc60A
         have cc61B := Keeps.of_below b72 _ _ _ cc61A
         have cc62B := Keeps.of_below b72 _ _ _ cc62A
         have cc63B := Keeps.of_below b72 _ _ _ cc63A
         have cc64B := Keeps.of_below b72 _ _ _ cc64A
         have cc65B := Keeps.of_below b72 _ _ _ cc65A
         skip))
  have b73 := below_join b71 b72
  clear cc60 cc60A cc60B cc61 cc61A cc61B cc62 cc62A cc62B cc63 cc63A cc63B cc64 cc64A cc64B cc65 cc65A cc65B o70
  have zw67 := b73.size
  have B74 := B59.trans (b73.mono B59.size)
  clear B59
  replace o24 := own_below o24 b73
  replace o34 := own_below o34 b73
  replace o46 := own_below o46 b73
  replace H9 := Lib.hid ((b73.block _ (Array.getElem?_eq_some_iff.1 H9.out).1).trans H9.out)
  replace H38 := Lib.hid ((b73.block _ (Array.getElem?_eq_some_iff.1 H38.out).1).trans H38.out)
  replace H42 := Lib.hid ((b73.block _ (Array.getElem?_eq_some_iff.1 H42.out).1).trans H42.out)
  replace H57 := Lib.hid ((b73.block _ (Array.getElem?_eq_some_iff.1 H57.out).1).trans H57.out)
  clear b71 b72 b710
  obtain ⟨cc75, cc76, cc77⟩ := cells3 H42.out
  go_wp2_with fail
  clear cc75 cc76 cc77
  refine (markTalk_any _ n0 t0 a32 _ c33 1 _ w67 o34 (by omega) (by omega)).mono ?_
  rintro e w78 ⟨rfl, o79, g80⟩
  have zw78 := g80.size
  have B81 := below_mark B74 io34 (by omega) B74.size g80
  clear B74
  replace o24 := own_apart o24 io24 io34 (by omega) g80
  replace o46 := own_apart o46 io46 io34 (by omega) g80
  replace H9 := Lib.hid (box_mark H9.out io34 (by omega) g80)
  replace H38 := Lib.hid (box_mark H38.out io34 (by omega) g80)
  replace H42 := Lib.hid (box_mark H42.out io34 (by omega) g80)
  replace H57 := Lib.hid (box_mark H57.out io34 (by omega) g80)
  clear o34 g80
  clear o79
  obtain ⟨cc82, cc83, cc84⟩ := cells3 H57.out
  obtain ⟨cc85, cc86, cc87⟩ := cells3 H38.out
  go_wp2_with fail
  clear cc82 cc83 cc84 cc85 cc86 cc87
  refine (eqTalk_any (ansN n0 t0 z0 x1) 0 (ansN n0 t0 z0 x1) 0 a44 a22 noInts noInts c45 c23 w78 (own_cells o46) (own_cells o24) (by omega) (by omega)).mono ?_
  rintro e w89 ⟨rfl, b88⟩
  have zw89 := b88.size
  have B90 := B81.trans (b88.mono B81.size)
  clear B81
  replace o24 := own_below o24 b88
  replace o46 := own_below o46 b88
  replace H9 := Lib.hid ((b88.block _ (Array.getElem?_eq_some_iff.1 H9.out).1).trans H9.out)
  replace H38 := Lib.hid ((b88.block _ (Array.getElem?_eq_some_iff.1 H38.out).1).trans H38.out)
  replace H42 := Lib.hid ((b88.block _ (Array.getElem?_eq_some_iff.1 H42.out).1).trans H42.out)
  replace H57 := Lib.hid ((b88.block _ (Array.getElem?_eq_some_iff.1 H57.out).1).trans H57.out)
  obtain ⟨cc91, cc92, cc93⟩ := cells3 H57.out
  go_wp2_with fail
  clear cc91 cc92 cc93
  refine (markTalk_any _ (ansN n0 t0 z0 x1) 0 a44 _ c45 1 _ w89 o46 (by omega) (by omega)).mono ?_
  rintro e w94 ⟨rfl, o95, g96⟩
  have zw94 := g96.size
  have B97 := below_mark B90 io46 (by omega) B90.size g96
  clear B90
  replace o24 := own_apart o24 io24 io46 (by omega) g96
  replace H9 := Lib.hid (box_mark H9.out io46 (by omega) g96)
  replace H38 := Lib.hid (box_mark H38.out io46 (by omega) g96)
  replace H42 := Lib.hid (box_mark H42.out io46 (by omega) g96)
  replace H57 := Lib.hid (box_mark H57.out io46 (by omega) g96)
  clear o46 g96
  obtain ⟨cc98, cc99, cc100⟩ := cells3 H57.out
  go_wp2_with fail
  clear cc98 cc99 cc100
  refine (heldTalk_any (ansN n0 t0 z0 x1) 0 a44 _ c45 1 w94 (own_cells o95) (by omega) (by omega)).mono ?_
  rintro e w102 ⟨rfl, b101⟩
  have zw102 := b101.size
  have B103 := B97.trans (b101.mono B97.size)
  clear B97
  replace o24 := own_below o24 b101
  replace o95 := own_below o95 b101
  replace H9 := Lib.hid ((b101.block _ (Array.getElem?_eq_some_iff.1 H9.out).1).trans H9.out)
  replace H38 := Lib.hid ((b101.block _ (Array.getElem?_eq_some_iff.1 H38.out).1).trans H38.out)
  replace H42 := Lib.hid ((b101.block _ (Array.getElem?_eq_some_iff.1 H42.out).1).trans H42.out)
  replace H57 := Lib.hid ((b101.block _ (Array.getElem?_eq_some_iff.1 H57.out).1).trans H57.out)
  obtain ⟨cc104, cc105, cc106⟩ := cells3 H9.out
  go_wp2_with fail
  clear cc104 cc105 cc106
  refine (toTalk_any n0 t0 a0 z0 cap0 w102 (rz0.below B103) (by omega)).mono ?_
  rintro e w111 ⟨a107, c108, rfl, o109, b110⟩
  have zw111 := b110.size
  have B112 := B103.trans (b110.mono B103.size)
  clear B103
  replace o24 := own_below o24 b110
  replace o95 := own_below o95 b110
  replace H9 := Lib.hid ((b110.block _ (Array.getElem?_eq_some_iff.1 H9.out).1).trans H9.out)
  replace H38 := Lib.hid ((b110.block _ (Array.getElem?_eq_some_iff.1 H38.out).1).trans H38.out)
  replace H42 := Lib.hid ((b110.block _ (Array.getElem?_eq_some_iff.1 H42.out).1).trans H42.out)
  replace H57 := Lib.hid ((b110.block _ (Array.getElem?_eq_some_iff.1 H57.out).1).trans H57.out)
  have io109 := own_in o109
  go_wp2_with fail
  refine (implTalkAnswer_x n0 t0 a107 z0 c108 _ x1 w111 o109 (by omega)).mono ?_
  rintro e w117 ⟨a113, c114, rfl, o115, b116⟩
  have zw117 := b116.size
  have B118 := B112.trans (b116.mono B112.size)
  clear B112
  replace o24 := own_below o24 b116
  replace o95 := own_below o95 b116
  replace o109 := own_below o109 b116
  replace H9 := Lib.hid ((b116.block _ (Array.getElem?_eq_some_iff.1 H9.out).1).trans H9.out)
  replace H38 := Lib.hid ((b116.block _ (Array.getElem?_eq_some_iff.1 H38.out).1).trans H38.out)
  replace H42 := Lib.hid ((b116.block _ (Array.getElem?_eq_some_iff.1 H42.out).1).trans H42.out)
  replace H57 := Lib.hid ((b116.block _ (Array.getElem?_eq_some_iff.1 H57.out).1).trans H57.out)
  have io115 := own_in o115
  clear o109
  obtain ⟨cc119, cc120, cc121⟩ := cells3 H38.out
  have ll122 := (Array.getElem?_eq_some_iff.1 H38.out).1
  go_wp2_with fail
  clear cc119 cc120 cc121 ll122
  refine name_calls fun W125 hW125 => ?_
  have zW125 : W125.heap.size = w117.heap.size + 1 := by rw [hW125]; simp
  have H1260 := heap_new_at w117 (.cells #[.int .i64 (ansN n0 t0 z0 x1), .int .i64 0, .slice a113 noInts.length c114] 25 (0, 0)) _ rfl
  rw [← hW125] at H1260
  have H126 := Lib.hid H1260
  clear H1260
  have B127 := B118.alloc B118.size (.cells #[.int .i64 (ansN n0 t0 z0 x1), .int .i64 0, .slice a113 noInts.length c114] 25 (0, 0))
  rw [← hW125] at B127
  clear B118
  replace o24 := World.ownsRow.alloc o24 (.cells #[.int .i64 (ansN n0 t0 z0 x1), .int .i64 0, .slice a113 noInts.length c114] 25 (0, 0))
  rw [← hW125] at o24
  replace o95 := World.ownsRow.alloc o95 (.cells #[.int .i64 (ansN n0 t0 z0 x1), .int .i64 0, .slice a113 noInts.length c114] 25 (0, 0))
  rw [← hW125] at o95
  replace o115 := World.ownsRow.alloc o115 (.cells #[.int .i64 (ansN n0 t0 z0 x1), .int .i64 0, .slice a113 noInts.length c114] 25 (0, 0))
  rw [← hW125] at o115
  have H90 := (Below.heap_alloc w117 (.cells #[.int .i64 (ansN n0 t0 z0 x1), .int .i64 0, .slice a113 noInts.length c114] 25 (0, 0)) _ (Array.getElem?_eq_some_iff.1 H9.out).1).trans H9.out
  rw [← hW125] at H90
  clear H9
  have H9 := Lib.hid H90
  clear H90
  have H380 := (Below.heap_alloc w117 (.cells #[.int .i64 (ansN n0 t0 z0 x1), .int .i64 0, .slice a113 noInts.length c114] 25 (0, 0)) _ (Array.getElem?_eq_some_iff.1 H38.out).1).trans H38.out
  rw [← hW125] at H380
  clear H38
  have H38 := Lib.hid H380
  clear H380
  have H420 := (Below.heap_alloc w117 (.cells #[.int .i64 (ansN n0 t0 z0 x1), .int .i64 0, .slice a113 noInts.length c114] 25 (0, 0)) _ (Array.getElem?_eq_some_iff.1 H42.out).1).trans H42.out
  rw [← hW125] at H420
  clear H42
  have H42 := Lib.hid H420
  clear H420
  have H570 := (Below.heap_alloc w117 (.cells #[.int .i64 (ansN n0 t0 z0 x1), .int .i64 0, .slice a113 noInts.length c114] 25 (0, 0)) _ (Array.getElem?_eq_some_iff.1 H57.out).1).trans H57.out
  rw [← hW125] at H570
  clear H57
  have H57 := Lib.hid H570
  clear H570
  clear hW125
  refine (eqTalk_any (ansN n0 t0 z0 x1) 0 (ansN n0 t0 z0 x1) 0 a113 a22 noInts noInts c114 c23 W125 (own_cells o115) (own_cells o24) (by omega) (by omega)).mono ?_
  rintro e w124 ⟨rfl, b123⟩
  have zw124 := b123.size
  have B128 := B127.trans (b123.mono B127.size)
  clear B127
  replace o24 := own_below o24 b123
  replace o95 := own_below o95 b123
  replace o115 := own_below o115 b123
  replace H9 := Lib.hid ((b123.block _ (Array.getElem?_eq_some_iff.1 H9.out).1).trans H9.out)
  replace H38 := Lib.hid ((b123.block _ (Array.getElem?_eq_some_iff.1 H38.out).1).trans H38.out)
  replace H42 := Lib.hid ((b123.block _ (Array.getElem?_eq_some_iff.1 H42.out).1).trans H42.out)
  replace H57 := Lib.hid ((b123.block _ (Array.getElem?_eq_some_iff.1 H57.out).1).trans H57.out)
  replace H126 := Lib.hid ((b123.block _ (Array.getElem?_eq_some_iff.1 H126.out).1).trans H126.out)
  clear o115
  obtain ⟨cc129, cc130, cc131⟩ := cells3 H57.out
  go_wp2_with fail
  clear cc129 cc130 cc131
  refine (heldTalk_any (ansN n0 t0 z0 x1) 0 a44 _ c45 1 w124 (own_cells o95) (by omega) (by omega)).mono ?_
  rintro e w133 ⟨rfl, b132⟩
  have zw133 := b132.size
  have B134 := B128.trans (b132.mono B128.size)
  clear B128
  replace o24 := own_below o24 b132
  replace o95 := own_below o95 b132
  replace H9 := Lib.hid ((b132.block _ (Array.getElem?_eq_some_iff.1 H9.out).1).trans H9.out)
  replace H38 := Lib.hid ((b132.block _ (Array.getElem?_eq_some_iff.1 H38.out).1).trans H38.out)
  replace H42 := Lib.hid ((b132.block _ (Array.getElem?_eq_some_iff.1 H42.out).1).trans H42.out)
  replace H57 := Lib.hid ((b132.block _ (Array.getElem?_eq_some_iff.1 H57.out).1).trans H57.out)
  replace H126 := Lib.hid ((b132.block _ (Array.getElem?_eq_some_iff.1 H126.out).1).trans H126.out)
  go_wp2
  go_ret
  exact ⟨rfl, B134⟩

set_option linter.unusedVariables false in
set_option maxRecDepth 100000 in
theorem FnExactTalkAnswer_lifted (os : Os) (started : os.Started) (H : Type) (enc : TypeId × Value → H) :
    ReturnsInHanded {} Try.checked os 8 .any (Rows.fnExactTalkAnswerSpec.pre6 enc Try.prog Try.f8 Rows.fnExactTalkAnswerRow.domain false) (Rows.fnExactTalkAnswerSpec.post enc Try.prog Try.f8 false true false false) := by
  refine returnsInHanded_of_change (C := Try.checked) own_knob started (by kernel_rfl) Try.func8
    (ChangeSpec.witness6 (enc := enc) (C := Try.checked) false ⟨#[], #[.agg #[.int .i64 0, .int .i64 0, .slice none 0 0], .int .i64 0], []⟩ 8 (by kernel_rfl) (by kernel_rfl) (by kernel_rfl) (by kernel_rfl)) ?_
  intro W base args ds gs before hval0 hW hcnd _
  have hval : ∀ (j : Nat) t v, Try.f8.params[j]? = some t → args[j]? = some v → Value.okWide Try.prog W .any base t v := hval0
  have hW' := hW
  obtain ⟨p, q, hA0, hV, rfl, hfz, hnd⟩ := hW
  have hA : DataW.TrodAll enc Try.prog W 0 (fun _ => true) true Try.f8.params.toList args.toList ds p := hA0
  rw [Try.params8] at hA hval
  obtain ⟨v0, vs0, d0, ds0, p0, q0, hargs, rfl, rfl, h0, r0⟩ := trodAll_cons hA
  obtain ⟨v1, vs1, d1, ds1, p1, q1, rfl, rfl, rfl, h1, r1⟩ := trodAll_cons r0
  obtain ⟨rfl, rfl, rfl⟩ := trodAll_nil r1
  obtain rfl : args = #[v0, v1] := by cases args; simp_all
  obtain ⟨rfl, rfl⟩ := trodVars_none hV
  have k0 := h0
  have lt0 : ∀ x ∈ p0, x.block < W.heap.size := by obtain ⟨m, hm⟩ := k0; exact DataW.trod_lt m _ _ _ hm
  obtain ⟨n0, t0, a0, cap0, z0, rfl, lc0, lm0, rz0⟩ := rd_talk (hval 0 29 v0 rfl rfl) h0
  obtain ⟨x1, rfl, rfl, rfl, wx1⟩ := open_int Try.underlying3 (hval 1 3 v1 rfl rfl) h1
  clear hA0 hval0
  refine (FnExactTalkAnswer_walk n0 t0 a0 z0 cap0 x1 W rz0 lc0 lm0 (bd_i64 wx1)).mono fun e W' ⟨he, bel⟩ => ?_
  subst he
  exact ⟨_, rfl, _, _, _, [], _, [], hW', trodAll_mk1 (shut_bool Try.underlying4 _), (trodAll_cons_mk (Below.trod laid_out (by kernel_rfl) (of_decide_eq_true (by kernel_rfl)) k0 bel lt0) (trodAll_cons_mk (shut_int Try.underlying3 wx1) trodAll_mk0)), rfl, bel.frame _, fun h => by cases h⟩

theorem FnExactTalkAnswer_holds : Rows.FnExactTalkAnswerSaid :=
  OpenClaim.holds_of_wide 8 Try.f8 rfl rfl rfl rfl rfl rfl rfl ⟨rfl, rfl, rfl, rfl, rfl⟩ rfl rfl rfl rfl rfl (by kernel_rfl) Try.func8 (by kernel_rfl)
    (of_decide_eq_true (by kernel_rfl)) (by unfold Func.isWrapper; first | (rw [if_pos (by decide +kernel)]; kernel_rfl) | (rw [if_neg (by decide +kernel)]; exact ⟨rfl, rfl⟩))
    (fun os started H enc _ => FnExactTalkAnswer_lifted os started H enc)
end Go.Proofs.Ytjamcfnclnpdkaa
