/- FnExactTalkLate: for all arguments the program's TalkLate answers what the reference's answers, leaves its arguments as they were, and its result shares no memory. No condition. -/
import Derived.Test.YtjamcfnclnpdkabTalk7
import Derived.Test.YtjamcfnclnpdkabSaidB
namespace Go.Proofs.Ytjamcfnclnpdkab
open Go.ChangeShapes Go.WideShapes Go.ChangeAt Go.RowKit

set_option maxHeartbeats 4000000 in
set_option maxRecDepth 100000 in
theorem FnExactTalkLate_walk (n0 : Int) (t0 : Int) (a0 : Option Addr) (z0 : List Int) (cap0 : Nat) (w : World) (rz0 : Ints w a0 z0) (_lc0 : z0.length ≤ cap0) (lm0 : cap0 ≤ maxLen) :
    Calls Try.prog 4 #[.agg #[.int .i64 n0, .int .i64 t0, .slice a0 z0.length cap0]] w fun e w' => e = .returned (.bool true) ∧ Below w.heap.size w w' := by
  unfold maxLen at lm0
  by_cases hn0 : (z0.length : Int) ≤ 1048576
  case neg =>
    have hn0' : (1048576 : Int) < (z0.length : Int) := by omega
    go_enter Try.func4, Try.ntmps4
    go_wp2_with fail
    refine name_calls fun W1 hW1 => ?_
    have B2 : Below w.heap.size w W1 := by
      rw [hW1]
      repeat' (first | exact Below.refl _ _ | exact Nat.le_refl _ | assumption | refine Below.drew ?_ | refine below_drewN ?_ _ | (refine Below.alloc ?_ (by first | exact Nat.le_refl _ | omega | (simp; done) | (simp; omega)) _) | (refine Below.setCell ?_ (by first | exact Nat.le_refl _ | omega | (simp; done) | (simp; omega)) _))
    have H3 := Lib.hid (show W1.heap[w.heap.size]? = some (.cells #[.int .i64 n0, .int .i64 t0, .slice a0 z0.length cap0] 36 (0, 0)) by rw [hW1]; exact heap_new_at _ _ _ rfl)
    have zW1 : W1.heap.size = w.heap.size + 1 := by rw [hW1]; simp
    clear hW1
    refine (szTalk_no n0 t0 a0 _ cap0 1048576 W1 hn0' (by omega) (by omega)).mono ?_
    rintro e w5 ⟨rfl, b4⟩
    have zw5 := b4.size
    have B6 := B2.trans (b4.mono B2.size)
    clear B2
    replace H3 := Lib.hid ((b4.block _ (Array.getElem?_eq_some_iff.1 H3.out).1).trans H3.out)
    go_wp2
    go_ret
    exact ⟨rfl, B6⟩
  go_enter Try.func4, Try.ntmps4
  go_wp2_with fail
  refine name_calls fun W7 hW7 => ?_
  have B8 : Below w.heap.size w W7 := by
    rw [hW7]
    repeat' (first | exact Below.refl _ _ | exact Nat.le_refl _ | assumption | refine Below.drew ?_ | refine below_drewN ?_ _ | (refine Below.alloc ?_ (by first | exact Nat.le_refl _ | omega | (simp; done) | (simp; omega)) _) | (refine Below.setCell ?_ (by first | exact Nat.le_refl _ | omega | (simp; done) | (simp; omega)) _))
  have H9 := Lib.hid (show W7.heap[w.heap.size]? = some (.cells #[.int .i64 n0, .int .i64 t0, .slice a0 z0.length cap0] 36 (0, 0)) by rw [hW7]; exact heap_new_at _ _ _ rfl)
  have zW7 : W7.heap.size = w.heap.size + 1 := by rw [hW7]; simp
  clear hW7
  refine (szTalk_yes n0 t0 a0 _ cap0 1048576 W7 hn0 (by omega)).mono ?_
  rintro e w11 ⟨rfl, b10⟩
  have zw11 := b10.size
  have B12 := B8.trans (b10.mono B8.size)
  clear B8
  replace H9 := Lib.hid ((b10.block _ (Array.getElem?_eq_some_iff.1 H9.out).1).trans H9.out)
  have lr := lateR_len n0 t0 z0
  have lr1 := lr.1
  have lr2 := lr.2
  clear lr
  obtain ⟨cc13, cc14, cc15⟩ := cells3 H9.out
  go_wp2_with fail
  clear cc13 cc14 cc15
  refine (toTalk_any n0 t0 a0 z0 cap0 w11 (rz0.below B12) (by omega)).mono ?_
  rintro e w20 ⟨a16, c17, rfl, o18, b19⟩
  have zw20 := b19.size
  have B21 := B12.trans (b19.mono B12.size)
  clear B12
  replace H9 := Lib.hid ((b19.block _ (Array.getElem?_eq_some_iff.1 H9.out).1).trans H9.out)
  have io18 := own_in o18
  go_wp2_with fail
  refine (specTalkLate_x n0 t0 a16 z0 c17 _ w20 o18 (by omega)).mono ?_
  rintro e w30 ⟨a22, c23, a25, c26, rfl, o24, o27, ap28, b29⟩
  have zw30 := b29.size
  have B31 := B21.trans (b29.mono B21.size)
  clear B21
  replace o18 := own_below o18 b29
  replace H9 := Lib.hid ((b29.block _ (Array.getElem?_eq_some_iff.1 H9.out).1).trans H9.out)
  have io24 := own_in o24
  have io27 := own_in o27
  clear o18
  obtain ⟨cc32, cc33, cc34⟩ := cells3 H9.out
  have ll35 := (Array.getElem?_eq_some_iff.1 H9.out).1
  go_wp2_with fail
  clear cc32 cc33 cc34 ll35
  refine name_calls fun W41 hW41 => ?_
  have zW41 : W41.heap.size = w30.heap.size + 1 := by rw [hW41]; simp
  have H420 := heap_new_at w30 (.cells #[.int .i64 ((lateR n0 t0 z0).k.n), .int .i64 ((lateR n0 t0 z0).k.t), .slice a22 ((lateR n0 t0 z0).k.b).length c23] 25 (0, 0)) _ rfl
  rw [← hW41] at H420
  have H42 := Lib.hid H420
  clear H420
  have B43 := B31.alloc B31.size (.cells #[.int .i64 ((lateR n0 t0 z0).k.n), .int .i64 ((lateR n0 t0 z0).k.t), .slice a22 ((lateR n0 t0 z0).k.b).length c23] 25 (0, 0))
  rw [← hW41] at B43
  clear B31
  replace o24 := World.ownsRow.alloc o24 (.cells #[.int .i64 ((lateR n0 t0 z0).k.n), .int .i64 ((lateR n0 t0 z0).k.t), .slice a22 ((lateR n0 t0 z0).k.b).length c23] 25 (0, 0))
  rw [← hW41] at o24
  replace o27 := World.ownsRow.alloc o27 (.cells #[.int .i64 ((lateR n0 t0 z0).k.n), .int .i64 ((lateR n0 t0 z0).k.t), .slice a22 ((lateR n0 t0 z0).k.b).length c23] 25 (0, 0))
  rw [← hW41] at o27
  have H90 := (Below.heap_alloc w30 (.cells #[.int .i64 ((lateR n0 t0 z0).k.n), .int .i64 ((lateR n0 t0 z0).k.t), .slice a22 ((lateR n0 t0 z0).k.b).length c23] 25 (0, 0)) _ (Array.getElem?_eq_some_iff.1 H9.out).1).trans H9.out
  rw [← hW41] at H90
  clear H9
  have H9 := Lib.hid H90
  clear H90
  clear hW41
  refine (toTalk_any n0 t0 a0 z0 cap0 W41 (rz0.below B43) (by omega)).mono ?_
  rintro e w40 ⟨a36, c37, rfl, o38, b39⟩
  have zw40 := b39.size
  have B44 := B43.trans (b39.mono B43.size)
  clear B43
  replace o24 := own_below o24 b39
  replace o27 := own_below o27 b39
  replace H9 := Lib.hid ((b39.block _ (Array.getElem?_eq_some_iff.1 H9.out).1).trans H9.out)
  replace H42 := Lib.hid ((b39.block _ (Array.getElem?_eq_some_iff.1 H42.out).1).trans H42.out)
  have io38 := own_in o38
  go_wp2_with fail
  refine name_calls fun W45 hW45 => ?_
  have zW45 : W45.heap.size = w40.heap.size + 1 := by rw [hW45]; simp
  have H460 := heap_new_at w40 (.cells #[.int .i64 n0, .int .i64 t0, .slice a36 z0.length c37] 25 (0, 0)) _ rfl
  rw [← hW45] at H460
  have H46 := Lib.hid H460
  clear H460
  have B47 := B44.alloc B44.size (.cells #[.int .i64 n0, .int .i64 t0, .slice a36 z0.length c37] 25 (0, 0))
  rw [← hW45] at B47
  clear B44
  replace o24 := World.ownsRow.alloc o24 (.cells #[.int .i64 n0, .int .i64 t0, .slice a36 z0.length c37] 25 (0, 0))
  rw [← hW45] at o24
  replace o27 := World.ownsRow.alloc o27 (.cells #[.int .i64 n0, .int .i64 t0, .slice a36 z0.length c37] 25 (0, 0))
  rw [← hW45] at o27
  replace o38 := World.ownsRow.alloc o38 (.cells #[.int .i64 n0, .int .i64 t0, .slice a36 z0.length c37] 25 (0, 0))
  rw [← hW45] at o38
  have H90 := (Below.heap_alloc w40 (.cells #[.int .i64 n0, .int .i64 t0, .slice a36 z0.length c37] 25 (0, 0)) _ (Array.getElem?_eq_some_iff.1 H9.out).1).trans H9.out
  rw [← hW45] at H90
  clear H9
  have H9 := Lib.hid H90
  clear H90
  have H420 := (Below.heap_alloc w40 (.cells #[.int .i64 n0, .int .i64 t0, .slice a36 z0.length c37] 25 (0, 0)) _ (Array.getElem?_eq_some_iff.1 H42.out).1).trans H42.out
  rw [← hW45] at H420
  clear H42
  have H42 := Lib.hid H420
  clear H420
  clear hW45
  refine (implTalkLate_x n0 t0 a36 z0 c37 _ W45 o38 (by omega)).mono ?_
  rintro e w56 ⟨a48, c49, a51, c52, rfl, o50, o53, ap54, b55⟩
  have zw56 := b55.size
  have B57 := B47.trans (b55.mono B47.size)
  clear B47
  replace o24 := own_below o24 b55
  replace o27 := own_below o27 b55
  replace o38 := own_below o38 b55
  replace H9 := Lib.hid ((b55.block _ (Array.getElem?_eq_some_iff.1 H9.out).1).trans H9.out)
  replace H42 := Lib.hid ((b55.block _ (Array.getElem?_eq_some_iff.1 H42.out).1).trans H42.out)
  replace H46 := Lib.hid ((b55.block _ (Array.getElem?_eq_some_iff.1 H46.out).1).trans H46.out)
  have io50 := own_in o50
  have io53 := own_in o53
  obtain ⟨cc58, cc59, cc60⟩ := cells3 H42.out
  have ll61 := (Array.getElem?_eq_some_iff.1 H42.out).1
  go_wp2_with fail
  clear cc58 cc59 cc60 ll61
  refine name_calls fun W64 hW64 => ?_
  have zW64 : W64.heap.size = w56.heap.size + 1 := by rw [hW64]; simp
  have H650 := heap_new_at w56 (.cells #[.int .i64 ((lateR n0 t0 z0).k.n), .int .i64 ((lateR n0 t0 z0).k.t), .slice a48 ((lateR n0 t0 z0).k.b).length c49] 25 (0, 0)) _ rfl
  rw [← hW64] at H650
  have H65 := Lib.hid H650
  clear H650
  have B66 := B57.alloc B57.size (.cells #[.int .i64 ((lateR n0 t0 z0).k.n), .int .i64 ((lateR n0 t0 z0).k.t), .slice a48 ((lateR n0 t0 z0).k.b).length c49] 25 (0, 0))
  rw [← hW64] at B66
  clear B57
  replace o24 := World.ownsRow.alloc o24 (.cells #[.int .i64 ((lateR n0 t0 z0).k.n), .int .i64 ((lateR n0 t0 z0).k.t), .slice a48 ((lateR n0 t0 z0).k.b).length c49] 25 (0, 0))
  rw [← hW64] at o24
  replace o27 := World.ownsRow.alloc o27 (.cells #[.int .i64 ((lateR n0 t0 z0).k.n), .int .i64 ((lateR n0 t0 z0).k.t), .slice a48 ((lateR n0 t0 z0).k.b).length c49] 25 (0, 0))
  rw [← hW64] at o27
  replace o38 := World.ownsRow.alloc o38 (.cells #[.int .i64 ((lateR n0 t0 z0).k.n), .int .i64 ((lateR n0 t0 z0).k.t), .slice a48 ((lateR n0 t0 z0).k.b).length c49] 25 (0, 0))
  rw [← hW64] at o38
  replace o50 := World.ownsRow.alloc o50 (.cells #[.int .i64 ((lateR n0 t0 z0).k.n), .int .i64 ((lateR n0 t0 z0).k.t), .slice a48 ((lateR n0 t0 z0).k.b).length c49] 25 (0, 0))
  rw [← hW64] at o50
  replace o53 := World.ownsRow.alloc o53 (.cells #[.int .i64 ((lateR n0 t0 z0).k.n), .int .i64 ((lateR n0 t0 z0).k.t), .slice a48 ((lateR n0 t0 z0).k.b).length c49] 25 (0, 0))
  rw [← hW64] at o53
  have H90 := (Below.heap_alloc w56 (.cells #[.int .i64 ((lateR n0 t0 z0).k.n), .int .i64 ((lateR n0 t0 z0).k.t), .slice a48 ((lateR n0 t0 z0).k.b).length c49] 25 (0, 0)) _ (Array.getElem?_eq_some_iff.1 H9.out).1).trans H9.out
  rw [← hW64] at H90
  clear H9
  have H9 := Lib.hid H90
  clear H90
  have H420 := (Below.heap_alloc w56 (.cells #[.int .i64 ((lateR n0 t0 z0).k.n), .int .i64 ((lateR n0 t0 z0).k.t), .slice a48 ((lateR n0 t0 z0).k.b).length c49] 25 (0, 0)) _ (Array.getElem?_eq_some_iff.1 H42.out).1).trans H42.out
  rw [← hW64] at H420
  clear H42
  have H42 := Lib.hid H420
  clear H420
  have H460 := (Below.heap_alloc w56 (.cells #[.int .i64 ((lateR n0 t0 z0).k.n), .int .i64 ((lateR n0 t0 z0).k.t), .slice a48 ((lateR n0 t0 z0).k.b).length c49] 25 (0, 0)) _ (Array.getElem?_eq_some_iff.1 H46.out).1).trans H46.out
  rw [← hW64] at H460
  clear H46
  have H46 := Lib.hid H460
  clear H460
  clear hW64
  refine (eqTalk_any ((lateR n0 t0 z0).k.n) ((lateR n0 t0 z0).k.t) ((lateR n0 t0 z0).k.n) ((lateR n0 t0 z0).k.t) a48 a22 ((lateR n0 t0 z0).k.b) ((lateR n0 t0 z0).k.b) c49 c23 W64 (own_cells o50) (own_cells o24) (by omega) (by omega)).mono ?_
  rintro e w63 ⟨rfl, b62⟩
  have zw63 := b62.size
  have B67 := B66.trans (b62.mono B66.size)
  clear B66
  replace o24 := own_below o24 b62
  replace o27 := own_below o27 b62
  replace o38 := own_below o38 b62
  replace o50 := own_below o50 b62
  replace o53 := own_below o53 b62
  replace H9 := Lib.hid ((b62.block _ (Array.getElem?_eq_some_iff.1 H9.out).1).trans H9.out)
  replace H42 := Lib.hid ((b62.block _ (Array.getElem?_eq_some_iff.1 H42.out).1).trans H42.out)
  replace H46 := Lib.hid ((b62.block _ (Array.getElem?_eq_some_iff.1 H46.out).1).trans H46.out)
  replace H65 := Lib.hid ((b62.block _ (Array.getElem?_eq_some_iff.1 H65.out).1).trans H65.out)
  go_wp2_with fail
  refine (eqIntS_below a51 a25 ((lateR n0 t0 z0).p) ((lateR n0 t0 z0).p) c52 c26 w63 (own_cells o53) (own_cells o27) (by omega) (by omega)).mono ?_
  rintro e w69 ⟨rfl, b68⟩
  have zw69 := b68.size
  have B70 := B67.trans (b68.mono B67.size)
  clear B67
  replace o24 := own_below o24 b68
  replace o27 := own_below o27 b68
  replace o38 := own_below o38 b68
  replace o50 := own_below o50 b68
  replace o53 := own_below o53 b68
  replace H9 := Lib.hid ((b68.block _ (Array.getElem?_eq_some_iff.1 H9.out).1).trans H9.out)
  replace H42 := Lib.hid ((b68.block _ (Array.getElem?_eq_some_iff.1 H42.out).1).trans H42.out)
  replace H46 := Lib.hid ((b68.block _ (Array.getElem?_eq_some_iff.1 H46.out).1).trans H46.out)
  replace H65 := Lib.hid ((b68.block _ (Array.getElem?_eq_some_iff.1 H65.out).1).trans H65.out)
  obtain ⟨cc71, cc72, cc73⟩ := cells3 H46.out
  obtain ⟨cc74, cc75, cc76⟩ := cells3 H9.out
  go_wp2_with fail
  go_region_held3 (fun v => v.cell? ⟨w40.heap.size, 0, none⟩ = some (.int .i64 n0) ∧ v.cell? ⟨w40.heap.size, 1, none⟩ = some (.int .i64 t0) ∧ v.cell? ⟨w40.heap.size, 2, none⟩ = some (.slice a36 z0.length c37) ∧ v.cell? ⟨w.heap.size, 0, none⟩ = some (.int .i64 n0) ∧ v.cell? ⟨w.heap.size, 1, none⟩ = some (.int .i64 t0) ∧ v.cell? ⟨w.heap.size, 2, none⟩ = some (.slice a0 z0.length cap0))
    (go_keep)
    (first
      | (go_at_call 17
         refine (toTalk_any n0 t0 a0 z0 cap0 _ (Cells.drew (rz0.below B70)) (by omega)).mono ?_
         rintro e w77 ⟨a79, c80, rfl, o81, b820⟩
         have b82 : Below w69.heap.size w69 w77 := (Below.refl _ w69).drew.trans b820
         have cc71A := Keeps.of_below b82 _ _ _ cc71
         have cc72A := Keeps.of_below b82 _ _ _ cc72
         have cc73A := Keeps.of_below b82 _ _ _ cc73
         have cc74A := Keeps.of_below b82 _ _ _ cc74
         have cc75A := Keeps.of_below b82 _ _ _ cc75
         have cc76A := Keeps.of_below b82 _ _ _ cc76
         skip)
      | (go_at_call 19
         refine (eqTalk_any n0 t0 n0 t0 a36 a79 z0 z0 c37 c80 _ (own_cells (own_below o38 b82)) (own_cells o81) (by omega) (by omega)).mono ?_
         rintro e w78 ⟨rfl, b83⟩
         have cc71B := Keeps.of_below b83 _ _ _ cc71A
         have cc72B := Keeps.of_below b83 _ _ _ cc72A
         have cc73B := Keeps.of_below b83 _ _ _ cc73A
         have cc74B := Keeps.of_below b83 _ _ _ cc74A
         have cc75B := Keeps.of_below b83 _ _ _ cc75A
         have cc76B := Keeps.of_below b83 _ _ _ cc76A
         skip))
  have b84 := below_join b82 b83
  clear cc71 cc71A cc71B cc72 cc72A cc72B cc73 cc73A cc73B cc74 cc74A cc74B cc75 cc75A cc75B cc76 cc76A cc76B o81
  have zw78 := b84.size
  have B85 := B70.trans (b84.mono B70.size)
  clear B70
  replace o24 := own_below o24 b84
  replace o27 := own_below o27 b84
  replace o38 := own_below o38 b84
  replace o50 := own_below o50 b84
  replace o53 := own_below o53 b84
  replace H9 := Lib.hid ((b84.block _ (Array.getElem?_eq_some_iff.1 H9.out).1).trans H9.out)
  replace H42 := Lib.hid ((b84.block _ (Array.getElem?_eq_some_iff.1 H42.out).1).trans H42.out)
  replace H46 := Lib.hid ((b84.block _ (Array.getElem?_eq_some_iff.1 H46.out).1).trans H46.out)
  replace H65 := Lib.hid ((b84.block _ (Array.getElem?_eq_some_iff.1 H65.out).1).trans H65.out)
  clear b82 b83 b820
  obtain ⟨cc86, cc87, cc88⟩ := cells3 H46.out
  go_wp2_with fail
  clear cc86 cc87 cc88
  refine (markTalk_any _ n0 t0 a36 _ c37 1 _ w78 o38 (by omega) (by omega)).mono ?_
  rintro e w89 ⟨rfl, o90, g91⟩
  have zw89 := g91.size
  have B92 := below_mark B85 io38 (by omega) B85.size g91
  clear B85
  replace o24 := own_apart o24 io24 io38 (by omega) g91
  replace o27 := own_apart o27 io27 io38 (by omega) g91
  replace o50 := own_apart o50 io50 io38 (by omega) g91
  replace o53 := own_apart o53 io53 io38 (by omega) g91
  replace H9 := Lib.hid (box_mark H9.out io38 (by omega) g91)
  replace H42 := Lib.hid (box_mark H42.out io38 (by omega) g91)
  replace H46 := Lib.hid (box_mark H46.out io38 (by omega) g91)
  replace H65 := Lib.hid (box_mark H65.out io38 (by omega) g91)
  clear o38 g91
  clear o90
  obtain ⟨cc93, cc94, cc95⟩ := cells3 H65.out
  obtain ⟨cc96, cc97, cc98⟩ := cells3 H42.out
  go_wp2_with fail
  clear cc93 cc94 cc95 cc96 cc97 cc98
  refine (eqTalk_any ((lateR n0 t0 z0).k.n) ((lateR n0 t0 z0).k.t) ((lateR n0 t0 z0).k.n) ((lateR n0 t0 z0).k.t) a48 a22 ((lateR n0 t0 z0).k.b) ((lateR n0 t0 z0).k.b) c49 c23 w89 (own_cells o50) (own_cells o24) (by omega) (by omega)).mono ?_
  rintro e w100 ⟨rfl, b99⟩
  have zw100 := b99.size
  have B101 := B92.trans (b99.mono B92.size)
  clear B92
  replace o24 := own_below o24 b99
  replace o27 := own_below o27 b99
  replace o50 := own_below o50 b99
  replace o53 := own_below o53 b99
  replace H9 := Lib.hid ((b99.block _ (Array.getElem?_eq_some_iff.1 H9.out).1).trans H9.out)
  replace H42 := Lib.hid ((b99.block _ (Array.getElem?_eq_some_iff.1 H42.out).1).trans H42.out)
  replace H46 := Lib.hid ((b99.block _ (Array.getElem?_eq_some_iff.1 H46.out).1).trans H46.out)
  replace H65 := Lib.hid ((b99.block _ (Array.getElem?_eq_some_iff.1 H65.out).1).trans H65.out)
  go_wp2_with fail
  refine (eqIntS_below a51 a25 ((lateR n0 t0 z0).p) ((lateR n0 t0 z0).p) c52 c26 w100 (own_cells o53) (own_cells o27) (by omega) (by omega)).mono ?_
  rintro e w103 ⟨rfl, b102⟩
  have zw103 := b102.size
  have B104 := B101.trans (b102.mono B101.size)
  clear B101
  replace o24 := own_below o24 b102
  replace o27 := own_below o27 b102
  replace o50 := own_below o50 b102
  replace o53 := own_below o53 b102
  replace H9 := Lib.hid ((b102.block _ (Array.getElem?_eq_some_iff.1 H9.out).1).trans H9.out)
  replace H42 := Lib.hid ((b102.block _ (Array.getElem?_eq_some_iff.1 H42.out).1).trans H42.out)
  replace H46 := Lib.hid ((b102.block _ (Array.getElem?_eq_some_iff.1 H46.out).1).trans H46.out)
  replace H65 := Lib.hid ((b102.block _ (Array.getElem?_eq_some_iff.1 H65.out).1).trans H65.out)
  obtain ⟨cc105, cc106, cc107⟩ := cells3 H65.out
  go_wp2_with fail
  clear cc105 cc106 cc107
  refine (markTalk_any _ ((lateR n0 t0 z0).k.n) ((lateR n0 t0 z0).k.t) a48 _ c49 1 _ w103 o50 (by omega) (by omega)).mono ?_
  rintro e w108 ⟨rfl, o109, g110⟩
  have zw108 := g110.size
  have B111 := below_mark B104 io50 (by omega) B104.size g110
  clear B104
  replace o24 := own_apart o24 io24 io50 (by omega) g110
  replace o27 := own_apart o27 io27 io50 (by omega) g110
  replace o53 := own_sep o53 ap54.symm g110
  replace H9 := Lib.hid (box_mark H9.out io50 (by omega) g110)
  replace H42 := Lib.hid (box_mark H42.out io50 (by omega) g110)
  replace H46 := Lib.hid (box_mark H46.out io50 (by omega) g110)
  replace H65 := Lib.hid (box_mark H65.out io50 (by omega) g110)
  clear o50 g110
  go_wp2_with fail
  refine (markIntS_any _ a51 _ c52 (1 + (((lateR n0 t0 z0).k.b).length : Int)) _ w108 o53 (by omega) (by omega)).mono ?_
  rintro e w112 ⟨rfl, o113, g114⟩
  have zw112 := g114.size
  have B115 := below_mark B111 io53 (by omega) B111.size g114
  clear B111
  replace o24 := own_apart o24 io24 io53 (by omega) g114
  replace o27 := own_apart o27 io27 io53 (by omega) g114
  replace o109 := own_sep o109 ap54 g114
  replace H9 := Lib.hid (box_mark H9.out io53 (by omega) g114)
  replace H42 := Lib.hid (box_mark H42.out io53 (by omega) g114)
  replace H46 := Lib.hid (box_mark H46.out io53 (by omega) g114)
  replace H65 := Lib.hid (box_mark H65.out io53 (by omega) g114)
  clear o53 g114
  obtain ⟨cc116, cc117, cc118⟩ := cells3 H65.out
  go_wp2_with fail
  clear cc116 cc117 cc118
  refine (heldTalk_any ((lateR n0 t0 z0).k.n) ((lateR n0 t0 z0).k.t) a48 _ c49 1 w112 (own_cells o109) (by omega) (by omega)).mono ?_
  rintro e w120 ⟨rfl, b119⟩
  have zw120 := b119.size
  have B121 := B115.trans (b119.mono B115.size)
  clear B115
  replace o24 := own_below o24 b119
  replace o27 := own_below o27 b119
  replace o109 := own_below o109 b119
  replace o113 := own_below o113 b119
  replace H9 := Lib.hid ((b119.block _ (Array.getElem?_eq_some_iff.1 H9.out).1).trans H9.out)
  replace H42 := Lib.hid ((b119.block _ (Array.getElem?_eq_some_iff.1 H42.out).1).trans H42.out)
  replace H46 := Lib.hid ((b119.block _ (Array.getElem?_eq_some_iff.1 H46.out).1).trans H46.out)
  replace H65 := Lib.hid ((b119.block _ (Array.getElem?_eq_some_iff.1 H65.out).1).trans H65.out)
  go_wp2_with fail
  refine (heldIntS_below a51 _ c52 (1 + (((lateR n0 t0 z0).k.b).length : Int)) w120 (own_cells o113) (by omega) (by omega)).mono ?_
  rintro e w123 ⟨rfl, b122⟩
  have zw123 := b122.size
  have B124 := B121.trans (b122.mono B121.size)
  clear B121
  replace o24 := own_below o24 b122
  replace o27 := own_below o27 b122
  replace o109 := own_below o109 b122
  replace o113 := own_below o113 b122
  replace H9 := Lib.hid ((b122.block _ (Array.getElem?_eq_some_iff.1 H9.out).1).trans H9.out)
  replace H42 := Lib.hid ((b122.block _ (Array.getElem?_eq_some_iff.1 H42.out).1).trans H42.out)
  replace H46 := Lib.hid ((b122.block _ (Array.getElem?_eq_some_iff.1 H46.out).1).trans H46.out)
  replace H65 := Lib.hid ((b122.block _ (Array.getElem?_eq_some_iff.1 H65.out).1).trans H65.out)
  obtain ⟨cc125, cc126, cc127⟩ := cells3 H9.out
  go_wp2_with fail
  clear cc125 cc126 cc127
  refine (toTalk_any n0 t0 a0 z0 cap0 w123 (rz0.below B124) (by omega)).mono ?_
  rintro e w132 ⟨a128, c129, rfl, o130, b131⟩
  have zw132 := b131.size
  have B133 := B124.trans (b131.mono B124.size)
  clear B124
  replace o24 := own_below o24 b131
  replace o27 := own_below o27 b131
  replace o109 := own_below o109 b131
  replace o113 := own_below o113 b131
  replace H9 := Lib.hid ((b131.block _ (Array.getElem?_eq_some_iff.1 H9.out).1).trans H9.out)
  replace H42 := Lib.hid ((b131.block _ (Array.getElem?_eq_some_iff.1 H42.out).1).trans H42.out)
  replace H46 := Lib.hid ((b131.block _ (Array.getElem?_eq_some_iff.1 H46.out).1).trans H46.out)
  replace H65 := Lib.hid ((b131.block _ (Array.getElem?_eq_some_iff.1 H65.out).1).trans H65.out)
  have io130 := own_in o130
  go_wp2_with fail
  refine (implTalkLate_x n0 t0 a128 z0 c129 _ w132 o130 (by omega)).mono ?_
  rintro e w142 ⟨a134, c135, a137, c138, rfl, o136, o139, ap140, b141⟩
  have zw142 := b141.size
  have B143 := B133.trans (b141.mono B133.size)
  clear B133
  replace o24 := own_below o24 b141
  replace o27 := own_below o27 b141
  replace o109 := own_below o109 b141
  replace o113 := own_below o113 b141
  replace o130 := own_below o130 b141
  replace H9 := Lib.hid ((b141.block _ (Array.getElem?_eq_some_iff.1 H9.out).1).trans H9.out)
  replace H42 := Lib.hid ((b141.block _ (Array.getElem?_eq_some_iff.1 H42.out).1).trans H42.out)
  replace H46 := Lib.hid ((b141.block _ (Array.getElem?_eq_some_iff.1 H46.out).1).trans H46.out)
  replace H65 := Lib.hid ((b141.block _ (Array.getElem?_eq_some_iff.1 H65.out).1).trans H65.out)
  have io136 := own_in o136
  have io139 := own_in o139
  clear o130
  obtain ⟨cc144, cc145, cc146⟩ := cells3 H42.out
  have ll147 := (Array.getElem?_eq_some_iff.1 H42.out).1
  go_wp2_with fail
  clear cc144 cc145 cc146 ll147
  refine name_calls fun W150 hW150 => ?_
  have zW150 : W150.heap.size = w142.heap.size + 1 := by rw [hW150]; simp
  have H1510 := heap_new_at w142 (.cells #[.int .i64 ((lateR n0 t0 z0).k.n), .int .i64 ((lateR n0 t0 z0).k.t), .slice a134 ((lateR n0 t0 z0).k.b).length c135] 25 (0, 0)) _ rfl
  rw [← hW150] at H1510
  have H151 := Lib.hid H1510
  clear H1510
  have B152 := B143.alloc B143.size (.cells #[.int .i64 ((lateR n0 t0 z0).k.n), .int .i64 ((lateR n0 t0 z0).k.t), .slice a134 ((lateR n0 t0 z0).k.b).length c135] 25 (0, 0))
  rw [← hW150] at B152
  clear B143
  replace o24 := World.ownsRow.alloc o24 (.cells #[.int .i64 ((lateR n0 t0 z0).k.n), .int .i64 ((lateR n0 t0 z0).k.t), .slice a134 ((lateR n0 t0 z0).k.b).length c135] 25 (0, 0))
  rw [← hW150] at o24
  replace o27 := World.ownsRow.alloc o27 (.cells #[.int .i64 ((lateR n0 t0 z0).k.n), .int .i64 ((lateR n0 t0 z0).k.t), .slice a134 ((lateR n0 t0 z0).k.b).length c135] 25 (0, 0))
  rw [← hW150] at o27
  replace o109 := World.ownsRow.alloc o109 (.cells #[.int .i64 ((lateR n0 t0 z0).k.n), .int .i64 ((lateR n0 t0 z0).k.t), .slice a134 ((lateR n0 t0 z0).k.b).length c135] 25 (0, 0))
  rw [← hW150] at o109
  replace o113 := World.ownsRow.alloc o113 (.cells #[.int .i64 ((lateR n0 t0 z0).k.n), .int .i64 ((lateR n0 t0 z0).k.t), .slice a134 ((lateR n0 t0 z0).k.b).length c135] 25 (0, 0))
  rw [← hW150] at o113
  replace o136 := World.ownsRow.alloc o136 (.cells #[.int .i64 ((lateR n0 t0 z0).k.n), .int .i64 ((lateR n0 t0 z0).k.t), .slice a134 ((lateR n0 t0 z0).k.b).length c135] 25 (0, 0))
  rw [← hW150] at o136
  replace o139 := World.ownsRow.alloc o139 (.cells #[.int .i64 ((lateR n0 t0 z0).k.n), .int .i64 ((lateR n0 t0 z0).k.t), .slice a134 ((lateR n0 t0 z0).k.b).length c135] 25 (0, 0))
  rw [← hW150] at o139
  have H90 := (Below.heap_alloc w142 (.cells #[.int .i64 ((lateR n0 t0 z0).k.n), .int .i64 ((lateR n0 t0 z0).k.t), .slice a134 ((lateR n0 t0 z0).k.b).length c135] 25 (0, 0)) _ (Array.getElem?_eq_some_iff.1 H9.out).1).trans H9.out
  rw [← hW150] at H90
  clear H9
  have H9 := Lib.hid H90
  clear H90
  have H420 := (Below.heap_alloc w142 (.cells #[.int .i64 ((lateR n0 t0 z0).k.n), .int .i64 ((lateR n0 t0 z0).k.t), .slice a134 ((lateR n0 t0 z0).k.b).length c135] 25 (0, 0)) _ (Array.getElem?_eq_some_iff.1 H42.out).1).trans H42.out
  rw [← hW150] at H420
  clear H42
  have H42 := Lib.hid H420
  clear H420
  have H460 := (Below.heap_alloc w142 (.cells #[.int .i64 ((lateR n0 t0 z0).k.n), .int .i64 ((lateR n0 t0 z0).k.t), .slice a134 ((lateR n0 t0 z0).k.b).length c135] 25 (0, 0)) _ (Array.getElem?_eq_some_iff.1 H46.out).1).trans H46.out
  rw [← hW150] at H460
  clear H46
  have H46 := Lib.hid H460
  clear H460
  have H650 := (Below.heap_alloc w142 (.cells #[.int .i64 ((lateR n0 t0 z0).k.n), .int .i64 ((lateR n0 t0 z0).k.t), .slice a134 ((lateR n0 t0 z0).k.b).length c135] 25 (0, 0)) _ (Array.getElem?_eq_some_iff.1 H65.out).1).trans H65.out
  rw [← hW150] at H650
  clear H65
  have H65 := Lib.hid H650
  clear H650
  clear hW150
  refine (eqTalk_any ((lateR n0 t0 z0).k.n) ((lateR n0 t0 z0).k.t) ((lateR n0 t0 z0).k.n) ((lateR n0 t0 z0).k.t) a134 a22 ((lateR n0 t0 z0).k.b) ((lateR n0 t0 z0).k.b) c135 c23 W150 (own_cells o136) (own_cells o24) (by omega) (by omega)).mono ?_
  rintro e w149 ⟨rfl, b148⟩
  have zw149 := b148.size
  have B153 := B152.trans (b148.mono B152.size)
  clear B152
  replace o24 := own_below o24 b148
  replace o27 := own_below o27 b148
  replace o109 := own_below o109 b148
  replace o113 := own_below o113 b148
  replace o136 := own_below o136 b148
  replace o139 := own_below o139 b148
  replace H9 := Lib.hid ((b148.block _ (Array.getElem?_eq_some_iff.1 H9.out).1).trans H9.out)
  replace H42 := Lib.hid ((b148.block _ (Array.getElem?_eq_some_iff.1 H42.out).1).trans H42.out)
  replace H46 := Lib.hid ((b148.block _ (Array.getElem?_eq_some_iff.1 H46.out).1).trans H46.out)
  replace H65 := Lib.hid ((b148.block _ (Array.getElem?_eq_some_iff.1 H65.out).1).trans H65.out)
  replace H151 := Lib.hid ((b148.block _ (Array.getElem?_eq_some_iff.1 H151.out).1).trans H151.out)
  go_wp2_with fail
  refine (eqIntS_below a137 a25 ((lateR n0 t0 z0).p) ((lateR n0 t0 z0).p) c138 c26 w149 (own_cells o139) (own_cells o27) (by omega) (by omega)).mono ?_
  rintro e w155 ⟨rfl, b154⟩
  have zw155 := b154.size
  have B156 := B153.trans (b154.mono B153.size)
  clear B153
  replace o24 := own_below o24 b154
  replace o27 := own_below o27 b154
  replace o109 := own_below o109 b154
  replace o113 := own_below o113 b154
  replace o136 := own_below o136 b154
  replace o139 := own_below o139 b154
  replace H9 := Lib.hid ((b154.block _ (Array.getElem?_eq_some_iff.1 H9.out).1).trans H9.out)
  replace H42 := Lib.hid ((b154.block _ (Array.getElem?_eq_some_iff.1 H42.out).1).trans H42.out)
  replace H46 := Lib.hid ((b154.block _ (Array.getElem?_eq_some_iff.1 H46.out).1).trans H46.out)
  replace H65 := Lib.hid ((b154.block _ (Array.getElem?_eq_some_iff.1 H65.out).1).trans H65.out)
  replace H151 := Lib.hid ((b154.block _ (Array.getElem?_eq_some_iff.1 H151.out).1).trans H151.out)
  clear o136
  clear o139
  obtain ⟨cc157, cc158, cc159⟩ := cells3 H65.out
  go_wp2_with fail
  clear cc157 cc158 cc159
  refine (heldTalk_any ((lateR n0 t0 z0).k.n) ((lateR n0 t0 z0).k.t) a48 _ c49 1 w155 (own_cells o109) (by omega) (by omega)).mono ?_
  rintro e w161 ⟨rfl, b160⟩
  have zw161 := b160.size
  have B162 := B156.trans (b160.mono B156.size)
  clear B156
  replace o24 := own_below o24 b160
  replace o27 := own_below o27 b160
  replace o109 := own_below o109 b160
  replace o113 := own_below o113 b160
  replace H9 := Lib.hid ((b160.block _ (Array.getElem?_eq_some_iff.1 H9.out).1).trans H9.out)
  replace H42 := Lib.hid ((b160.block _ (Array.getElem?_eq_some_iff.1 H42.out).1).trans H42.out)
  replace H46 := Lib.hid ((b160.block _ (Array.getElem?_eq_some_iff.1 H46.out).1).trans H46.out)
  replace H65 := Lib.hid ((b160.block _ (Array.getElem?_eq_some_iff.1 H65.out).1).trans H65.out)
  replace H151 := Lib.hid ((b160.block _ (Array.getElem?_eq_some_iff.1 H151.out).1).trans H151.out)
  go_wp2_with fail
  refine (heldIntS_below a51 _ c52 (1 + (((lateR n0 t0 z0).k.b).length : Int)) w161 (own_cells o113) (by omega) (by omega)).mono ?_
  rintro e w164 ⟨rfl, b163⟩
  have zw164 := b163.size
  have B165 := B162.trans (b163.mono B162.size)
  clear B162
  replace o24 := own_below o24 b163
  replace o27 := own_below o27 b163
  replace o109 := own_below o109 b163
  replace o113 := own_below o113 b163
  replace H9 := Lib.hid ((b163.block _ (Array.getElem?_eq_some_iff.1 H9.out).1).trans H9.out)
  replace H42 := Lib.hid ((b163.block _ (Array.getElem?_eq_some_iff.1 H42.out).1).trans H42.out)
  replace H46 := Lib.hid ((b163.block _ (Array.getElem?_eq_some_iff.1 H46.out).1).trans H46.out)
  replace H65 := Lib.hid ((b163.block _ (Array.getElem?_eq_some_iff.1 H65.out).1).trans H65.out)
  replace H151 := Lib.hid ((b163.block _ (Array.getElem?_eq_some_iff.1 H151.out).1).trans H151.out)
  go_wp2
  go_ret
  exact ⟨rfl, B165⟩

set_option linter.unusedVariables false in
set_option maxRecDepth 100000 in
theorem FnExactTalkLate_lifted (os : Os) (started : os.Started) (H : Type) (enc : TypeId × Value → H) :
    ReturnsInHanded {} Try.checked os 4 .any (Rows.fnExactTalkLateSpec.pre6 enc Try.prog Try.f4 Rows.fnExactTalkLateRow.domain false) (Rows.fnExactTalkLateSpec.post enc Try.prog Try.f4 false true false false) := by
  refine returnsInHanded_of_change (C := Try.checked) own_knob started (by kernel_rfl) Try.func4
    (ChangeSpec.witness6 (enc := enc) (C := Try.checked) false ⟨#[], #[.agg #[.int .i64 0, .int .i64 0, .slice none 0 0]], []⟩ 8 (by kernel_rfl) (by kernel_rfl) (by kernel_rfl) (by kernel_rfl)) ?_
  intro W base args ds gs before hval0 hW hcnd _
  have hval : ∀ (j : Nat) t v, Try.f4.params[j]? = some t → args[j]? = some v → Value.okWide Try.prog W .any base t v := hval0
  have hW' := hW
  obtain ⟨p, q, hA0, hV, rfl, hfz, hnd⟩ := hW
  have hA : DataW.TrodAll enc Try.prog W 0 (fun _ => true) true Try.f4.params.toList args.toList ds p := hA0
  rw [Try.params4] at hA hval
  obtain ⟨v0, vs0, d0, ds0, p0, q0, hargs, rfl, rfl, h0, r0⟩ := trodAll_cons hA
  obtain ⟨rfl, rfl, rfl⟩ := trodAll_nil r0
  obtain rfl : args = #[v0] := by cases args; simp_all
  obtain ⟨rfl, rfl⟩ := trodVars_none hV
  have k0 := h0
  have lt0 : ∀ x ∈ p0, x.block < W.heap.size := by obtain ⟨m, hm⟩ := k0; exact DataW.trod_lt m _ _ _ hm
  obtain ⟨n0, t0, a0, cap0, z0, rfl, lc0, lm0, rz0⟩ := rd_talk (hval 0 36 v0 rfl rfl) h0
  clear hA0 hval0
  refine (FnExactTalkLate_walk n0 t0 a0 z0 cap0 W rz0 lc0 lm0).mono fun e W' ⟨he, bel⟩ => ?_
  subst he
  exact ⟨_, rfl, _, _, _, [], _, [], hW', trodAll_mk1 (shut_bool Try.underlying4 _), (trodAll_cons_mk (Below.trod laid_out (by kernel_rfl) (of_decide_eq_true (by kernel_rfl)) k0 bel lt0) trodAll_mk0), rfl, bel.frame _, fun h => by cases h⟩

theorem FnExactTalkLate_holds : Rows.FnExactTalkLateSaid :=
  OpenClaim.holds_of_wide 4 Try.f4 rfl rfl rfl rfl rfl rfl rfl ⟨rfl, rfl, rfl, rfl, rfl⟩ rfl rfl rfl rfl rfl (by kernel_rfl) Try.func4 (by kernel_rfl)
    (of_decide_eq_true (by kernel_rfl)) (by unfold Func.isWrapper; first | (rw [if_pos (by decide +kernel)]; kernel_rfl) | (rw [if_neg (by decide +kernel)]; exact ⟨rfl, rfl⟩))
    (fun os started H enc _ => FnExactTalkLate_lifted os started H enc)
end Go.Proofs.Ytjamcfnclnpdkab
