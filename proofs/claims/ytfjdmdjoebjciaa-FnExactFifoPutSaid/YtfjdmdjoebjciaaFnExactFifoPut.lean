/- FnExactFifoPut: for all arguments the program's FifoPut answers what the reference's answers, leaves its arguments as they were, and its result shares no memory. No condition. -/
import Derived.Test.YtfjdmdjoebjciaaFifo4
import Derived.Test.YtfjdmdjoebjciaaSaidB
namespace Go.Proofs.Ytfjdmdjoebjciaa
open Go.ChangeShapes Go.WideShapes Go.ChangeAt Go.RowKit

set_option maxHeartbeats 4000000 in
set_option maxRecDepth 100000 in
theorem FnExactFifoPut_walk (r0 : Int) (a0 : Option Addr) (z0 : List Int) (cap0 : Nat) (x1 : Int) (w : World) (rz0 : Ints w a0 z0) (_lc0 : z0.length ≤ cap0) (lm0 : cap0 ≤ maxLen) (_wx1 : -9223372036854775808 ≤ x1 ∧ x1 ≤ 9223372036854775807) :
    Calls Try.prog 7 #[.agg #[.int .i64 r0, .slice a0 z0.length cap0], .int .i64 x1] w fun e w' => e = .returned (.bool true) ∧ Below w.heap.size w w' := by
  unfold maxLen at lm0
  by_cases hn0 : (z0.length : Int) ≤ 1048576
  case neg =>
    have hn0' : (1048576 : Int) < (z0.length : Int) := by omega
    go_enter Try.func7, Try.ntmps7
    go_wp2_with fail
    refine name_calls fun W1 hW1 => ?_
    have B2 : Below w.heap.size w W1 := by
      rw [hW1]
      repeat' (first | exact Below.refl _ _ | exact Nat.le_refl _ | assumption | refine Below.drew ?_ | refine below_drewN ?_ _ | (refine Below.alloc ?_ (by first | exact Nat.le_refl _ | omega | (simp; done) | (simp; omega)) _) | (refine Below.setCell ?_ (by first | exact Nat.le_refl _ | omega | (simp; done) | (simp; omega)) _))
    have H3 := Lib.hid (show W1.heap[w.heap.size]? = some (.cells #[.int .i64 r0, .slice a0 z0.length cap0] 38 (0, 0)) by rw [hW1]; exact heap_new_at _ _ _ rfl)
    have zW1 : W1.heap.size = w.heap.size + 1 := by rw [hW1]; simp
    clear hW1
    refine (szFifo_no r0 a0 _ cap0 1048576 W1 hn0' (by omega) (by omega)).mono ?_
    rintro e w5 ⟨rfl, b4⟩
    have zw5 := b4.size
    have B6 := B2.trans (b4.mono B2.size)
    clear B2
    replace H3 := Lib.hid ((b4.block _ (Array.getElem?_eq_some_iff.1 H3.out).1).trans H3.out)
    go_wp2
    go_ret
    exact ⟨rfl, B6⟩
  go_enter Try.func7, Try.ntmps7
  go_wp2_with fail
  refine name_calls fun W7 hW7 => ?_
  have B8 : Below w.heap.size w W7 := by
    rw [hW7]
    repeat' (first | exact Below.refl _ _ | exact Nat.le_refl _ | assumption | refine Below.drew ?_ | refine below_drewN ?_ _ | (refine Below.alloc ?_ (by first | exact Nat.le_refl _ | omega | (simp; done) | (simp; omega)) _) | (refine Below.setCell ?_ (by first | exact Nat.le_refl _ | omega | (simp; done) | (simp; omega)) _))
  have H9 := Lib.hid (show W7.heap[w.heap.size]? = some (.cells #[.int .i64 r0, .slice a0 z0.length cap0] 38 (0, 0)) by rw [hW7]; exact heap_new_at _ _ _ rfl)
  have zW7 : W7.heap.size = w.heap.size + 1 := by rw [hW7]; simp
  clear hW7
  refine (szFifo_yes r0 a0 _ cap0 1048576 W7 hn0 (by omega)).mono ?_
  rintro e w11 ⟨rfl, b10⟩
  have zw11 := b10.size
  have B12 := B8.trans (b10.mono B8.size)
  clear B8
  replace H9 := Lib.hid ((b10.block _ (Array.getElem?_eq_some_iff.1 H9.out).1).trans H9.out)
  have lr := putR_len r0 z0 x1
  obtain ⟨cc13, cc14⟩ := cells2 H9.out
  have ll15 := (Array.getElem?_eq_some_iff.1 H9.out).1
  go_wp2_with fail
  clear cc13 cc14 ll15
  refine (toFifo_any r0 a0 z0 cap0 w11 (rz0.below B12) (by omega)).mono ?_
  rintro e w20 ⟨a16, c17, rfl, o18, b19⟩
  have zw20 := b19.size
  have B21 := B12.trans (b19.mono B12.size)
  clear B12
  replace H9 := Lib.hid ((b19.block _ (Array.getElem?_eq_some_iff.1 H9.out).1).trans H9.out)
  have io18 := own_in o18
  go_wp2_with fail
  refine (specFifoPut_x r0 a16 z0 c17 _ x1 w20 o18 (by omega)).mono ?_
  rintro e w26 ⟨a22, c23, rfl, o24, b25⟩
  have zw26 := b25.size
  have B27 := B21.trans (b25.mono B21.size)
  clear B21
  replace o18 := own_below o18 b25
  replace H9 := Lib.hid ((b25.block _ (Array.getElem?_eq_some_iff.1 H9.out).1).trans H9.out)
  have io24 := own_in o24
  clear o18
  obtain ⟨cc28, cc29⟩ := cells2 H9.out
  have ll30 := (Array.getElem?_eq_some_iff.1 H9.out).1
  go_wp2_with fail
  clear cc28 cc29 ll30
  refine name_calls fun W36 hW36 => ?_
  have zW36 : W36.heap.size = w26.heap.size + 1 := by rw [hW36]; simp
  have H370 := heap_new_at w26 (.cells #[.int .i64 ((putR r0 z0 x1).r), .slice a22 ((putR r0 z0 x1).b).length c23] 25 (0, 0)) _ rfl
  rw [← hW36] at H370
  have H37 := Lib.hid H370
  clear H370
  have B38 := B27.alloc B27.size (.cells #[.int .i64 ((putR r0 z0 x1).r), .slice a22 ((putR r0 z0 x1).b).length c23] 25 (0, 0))
  rw [← hW36] at B38
  clear B27
  replace o24 := World.ownsRow.alloc o24 (.cells #[.int .i64 ((putR r0 z0 x1).r), .slice a22 ((putR r0 z0 x1).b).length c23] 25 (0, 0))
  rw [← hW36] at o24
  have H90 := (Below.heap_alloc w26 (.cells #[.int .i64 ((putR r0 z0 x1).r), .slice a22 ((putR r0 z0 x1).b).length c23] 25 (0, 0)) _ (Array.getElem?_eq_some_iff.1 H9.out).1).trans H9.out
  rw [← hW36] at H90
  clear H9
  have H9 := Lib.hid H90
  clear H90
  clear hW36
  refine (toFifo_any r0 a0 z0 cap0 W36 (rz0.below B38) (by omega)).mono ?_
  rintro e w35 ⟨a31, c32, rfl, o33, b34⟩
  have zw35 := b34.size
  have B39 := B38.trans (b34.mono B38.size)
  clear B38
  replace o24 := own_below o24 b34
  replace H9 := Lib.hid ((b34.block _ (Array.getElem?_eq_some_iff.1 H9.out).1).trans H9.out)
  replace H37 := Lib.hid ((b34.block _ (Array.getElem?_eq_some_iff.1 H37.out).1).trans H37.out)
  have io33 := own_in o33
  go_wp2_with fail
  refine name_calls fun W40 hW40 => ?_
  have zW40 : W40.heap.size = w35.heap.size + 1 := by rw [hW40]; simp
  have H410 := heap_new_at w35 (.cells #[.int .i64 r0, .slice a31 z0.length c32] 25 (0, 0)) _ rfl
  rw [← hW40] at H410
  have H41 := Lib.hid H410
  clear H410
  have B42 := B39.alloc B39.size (.cells #[.int .i64 r0, .slice a31 z0.length c32] 25 (0, 0))
  rw [← hW40] at B42
  clear B39
  replace o24 := World.ownsRow.alloc o24 (.cells #[.int .i64 r0, .slice a31 z0.length c32] 25 (0, 0))
  rw [← hW40] at o24
  replace o33 := World.ownsRow.alloc o33 (.cells #[.int .i64 r0, .slice a31 z0.length c32] 25 (0, 0))
  rw [← hW40] at o33
  have H90 := (Below.heap_alloc w35 (.cells #[.int .i64 r0, .slice a31 z0.length c32] 25 (0, 0)) _ (Array.getElem?_eq_some_iff.1 H9.out).1).trans H9.out
  rw [← hW40] at H90
  clear H9
  have H9 := Lib.hid H90
  clear H90
  have H370 := (Below.heap_alloc w35 (.cells #[.int .i64 r0, .slice a31 z0.length c32] 25 (0, 0)) _ (Array.getElem?_eq_some_iff.1 H37.out).1).trans H37.out
  rw [← hW40] at H370
  clear H37
  have H37 := Lib.hid H370
  clear H370
  clear hW40
  refine (implFifoPut_x r0 a31 z0 c32 _ x1 W40 o33 (by omega)).mono ?_
  rintro e w47 ⟨a43, c44, rfl, o45, b46⟩
  have zw47 := b46.size
  have B48 := B42.trans (b46.mono B42.size)
  clear B42
  replace o24 := own_below o24 b46
  replace o33 := own_below o33 b46
  replace H9 := Lib.hid ((b46.block _ (Array.getElem?_eq_some_iff.1 H9.out).1).trans H9.out)
  replace H37 := Lib.hid ((b46.block _ (Array.getElem?_eq_some_iff.1 H37.out).1).trans H37.out)
  replace H41 := Lib.hid ((b46.block _ (Array.getElem?_eq_some_iff.1 H41.out).1).trans H41.out)
  have io45 := own_in o45
  obtain ⟨cc49, cc50⟩ := cells2 H37.out
  have ll51 := (Array.getElem?_eq_some_iff.1 H37.out).1
  go_wp2_with fail
  clear cc49 cc50 ll51
  refine name_calls fun W54 hW54 => ?_
  have zW54 : W54.heap.size = w47.heap.size + 1 := by rw [hW54]; simp
  have H550 := heap_new_at w47 (.cells #[.int .i64 ((putR r0 z0 x1).r), .slice a43 ((putR r0 z0 x1).b).length c44] 25 (0, 0)) _ rfl
  rw [← hW54] at H550
  have H55 := Lib.hid H550
  clear H550
  have B56 := B48.alloc B48.size (.cells #[.int .i64 ((putR r0 z0 x1).r), .slice a43 ((putR r0 z0 x1).b).length c44] 25 (0, 0))
  rw [← hW54] at B56
  clear B48
  replace o24 := World.ownsRow.alloc o24 (.cells #[.int .i64 ((putR r0 z0 x1).r), .slice a43 ((putR r0 z0 x1).b).length c44] 25 (0, 0))
  rw [← hW54] at o24
  replace o33 := World.ownsRow.alloc o33 (.cells #[.int .i64 ((putR r0 z0 x1).r), .slice a43 ((putR r0 z0 x1).b).length c44] 25 (0, 0))
  rw [← hW54] at o33
  replace o45 := World.ownsRow.alloc o45 (.cells #[.int .i64 ((putR r0 z0 x1).r), .slice a43 ((putR r0 z0 x1).b).length c44] 25 (0, 0))
  rw [← hW54] at o45
  have H90 := (Below.heap_alloc w47 (.cells #[.int .i64 ((putR r0 z0 x1).r), .slice a43 ((putR r0 z0 x1).b).length c44] 25 (0, 0)) _ (Array.getElem?_eq_some_iff.1 H9.out).1).trans H9.out
  rw [← hW54] at H90
  clear H9
  have H9 := Lib.hid H90
  clear H90
  have H370 := (Below.heap_alloc w47 (.cells #[.int .i64 ((putR r0 z0 x1).r), .slice a43 ((putR r0 z0 x1).b).length c44] 25 (0, 0)) _ (Array.getElem?_eq_some_iff.1 H37.out).1).trans H37.out
  rw [← hW54] at H370
  clear H37
  have H37 := Lib.hid H370
  clear H370
  have H410 := (Below.heap_alloc w47 (.cells #[.int .i64 ((putR r0 z0 x1).r), .slice a43 ((putR r0 z0 x1).b).length c44] 25 (0, 0)) _ (Array.getElem?_eq_some_iff.1 H41.out).1).trans H41.out
  rw [← hW54] at H410
  clear H41
  have H41 := Lib.hid H410
  clear H410
  clear hW54
  refine (eqFifo_any ((putR r0 z0 x1).r) ((putR r0 z0 x1).r) a43 a22 ((putR r0 z0 x1).b) ((putR r0 z0 x1).b) c44 c23 W54 (own_cells o45) (own_cells o24) (by omega) (by omega)).mono ?_
  rintro e w53 ⟨rfl, b52⟩
  have zw53 := b52.size
  have B57 := B56.trans (b52.mono B56.size)
  clear B56
  replace o24 := own_below o24 b52
  replace o33 := own_below o33 b52
  replace o45 := own_below o45 b52
  replace H9 := Lib.hid ((b52.block _ (Array.getElem?_eq_some_iff.1 H9.out).1).trans H9.out)
  replace H37 := Lib.hid ((b52.block _ (Array.getElem?_eq_some_iff.1 H37.out).1).trans H37.out)
  replace H41 := Lib.hid ((b52.block _ (Array.getElem?_eq_some_iff.1 H41.out).1).trans H41.out)
  replace H55 := Lib.hid ((b52.block _ (Array.getElem?_eq_some_iff.1 H55.out).1).trans H55.out)
  obtain ⟨cc58, cc59⟩ := cells2 H41.out
  have ll60 := (Array.getElem?_eq_some_iff.1 H41.out).1
  obtain ⟨cc61, cc62⟩ := cells2 H9.out
  have ll63 := (Array.getElem?_eq_some_iff.1 H9.out).1
  go_wp2_with fail
  go_region_held3 (fun v => v.cell? ⟨w35.heap.size, 0, none⟩ = some (.int .i64 r0) ∧ v.cell? ⟨w35.heap.size, 1, none⟩ = some (.slice a31 z0.length c32) ∧ v.cell? ⟨w.heap.size, 0, none⟩ = some (.int .i64 r0) ∧ v.cell? ⟨w.heap.size, 1, none⟩ = some (.slice a0 z0.length cap0))
    (go_keep)
    (first
      | (go_at_call 24
         refine (toFifo_any r0 a0 z0 cap0 _ (Cells.drew (rz0.below B57)) (by omega)).mono ?_
         rintro e w64 ⟨a66, c67, rfl, o68, b690⟩
         have b69 : Below w53.heap.size w53 w64 := (Below.refl _ w53).drew.trans b690
         have cc58A := Keeps.of_below b69 _ _ _ cc58
         have cc59A := Keeps.of_below b69 _ _ _ cc59
         have cc61A := Keeps.of_below b69 _ _ _ cc61
         have cc62A := Keeps.of_below b69 _ _ _ cc62
         skip)
      | (go_at_call 25
         refine (eqFifo_any r0 r0 a31 a66 z0 z0 c32 c67 _ (own_cells (own_below o33 b69)) (own_cells o68) (by omega) (by omega)).mono ?_
         rintro e w65 ⟨rfl, b70⟩
         have cc58B := Keeps.of_below b70 _ _ _ cc58A
         have cc59B := Keeps.of_below b70 _ _ _ cc59A
         have cc61B := Keeps.of_below b70 _ _ _ cc61A
         have cc62B := Keeps.of_below b70 _ _ _ cc62A
         skip))
  have b71 := below_join b69 b70
  clear ll60 ll63 cc58 cc58A cc58B cc59 cc59A cc59B cc61 cc61A cc61B cc62 cc62A cc62B o68
  have zw65 := b71.size
  have B72 := B57.trans (b71.mono B57.size)
  clear B57
  replace o24 := own_below o24 b71
  replace o33 := own_below o33 b71
  replace o45 := own_below o45 b71
  replace H9 := Lib.hid ((b71.block _ (Array.getElem?_eq_some_iff.1 H9.out).1).trans H9.out)
  replace H37 := Lib.hid ((b71.block _ (Array.getElem?_eq_some_iff.1 H37.out).1).trans H37.out)
  replace H41 := Lib.hid ((b71.block _ (Array.getElem?_eq_some_iff.1 H41.out).1).trans H41.out)
  replace H55 := Lib.hid ((b71.block _ (Array.getElem?_eq_some_iff.1 H55.out).1).trans H55.out)
  clear b69 b70 b690
  obtain ⟨cc73, cc74⟩ := cells2 H41.out
  have ll75 := (Array.getElem?_eq_some_iff.1 H41.out).1
  go_wp2_with fail
  clear cc73 cc74 ll75
  refine (markFifo_any _ r0 a31 _ c32 1 _ w65 o33 (by omega) (by omega)).mono ?_
  rintro e w76 ⟨rfl, o77, g78⟩
  have zw76 := g78.size
  have B79 := below_mark B72 io33 (by omega) B72.size g78
  clear B72
  replace o24 := own_apart o24 io24 io33 (by omega) g78
  replace o45 := own_apart o45 io45 io33 (by omega) g78
  replace H9 := Lib.hid (box_mark H9.out io33 (by omega) g78)
  replace H37 := Lib.hid (box_mark H37.out io33 (by omega) g78)
  replace H41 := Lib.hid (box_mark H41.out io33 (by omega) g78)
  replace H55 := Lib.hid (box_mark H55.out io33 (by omega) g78)
  clear o33 g78
  clear o77
  obtain ⟨cc80, cc81⟩ := cells2 H55.out
  have ll82 := (Array.getElem?_eq_some_iff.1 H55.out).1
  obtain ⟨cc83, cc84⟩ := cells2 H37.out
  have ll85 := (Array.getElem?_eq_some_iff.1 H37.out).1
  go_wp2_with fail
  clear cc80 cc81 ll82 cc83 cc84 ll85
  refine (eqFifo_any ((putR r0 z0 x1).r) ((putR r0 z0 x1).r) a43 a22 ((putR r0 z0 x1).b) ((putR r0 z0 x1).b) c44 c23 w76 (own_cells o45) (own_cells o24) (by omega) (by omega)).mono ?_
  rintro e w87 ⟨rfl, b86⟩
  have zw87 := b86.size
  have B88 := B79.trans (b86.mono B79.size)
  clear B79
  replace o24 := own_below o24 b86
  replace o45 := own_below o45 b86
  replace H9 := Lib.hid ((b86.block _ (Array.getElem?_eq_some_iff.1 H9.out).1).trans H9.out)
  replace H37 := Lib.hid ((b86.block _ (Array.getElem?_eq_some_iff.1 H37.out).1).trans H37.out)
  replace H41 := Lib.hid ((b86.block _ (Array.getElem?_eq_some_iff.1 H41.out).1).trans H41.out)
  replace H55 := Lib.hid ((b86.block _ (Array.getElem?_eq_some_iff.1 H55.out).1).trans H55.out)
  obtain ⟨cc89, cc90⟩ := cells2 H55.out
  have ll91 := (Array.getElem?_eq_some_iff.1 H55.out).1
  go_wp2_with fail
  clear cc89 cc90 ll91
  refine (markFifo_any _ ((putR r0 z0 x1).r) a43 _ c44 1 _ w87 o45 (by omega) (by omega)).mono ?_
  rintro e w92 ⟨rfl, o93, g94⟩
  have zw92 := g94.size
  have B95 := below_mark B88 io45 (by omega) B88.size g94
  clear B88
  replace o24 := own_apart o24 io24 io45 (by omega) g94
  replace H9 := Lib.hid (box_mark H9.out io45 (by omega) g94)
  replace H37 := Lib.hid (box_mark H37.out io45 (by omega) g94)
  replace H41 := Lib.hid (box_mark H41.out io45 (by omega) g94)
  replace H55 := Lib.hid (box_mark H55.out io45 (by omega) g94)
  clear o45 g94
  obtain ⟨cc96, cc97⟩ := cells2 H55.out
  have ll98 := (Array.getElem?_eq_some_iff.1 H55.out).1
  go_wp2_with fail
  clear cc96 cc97 ll98
  refine (heldFifo_any ((putR r0 z0 x1).r) a43 _ c44 1 w92 (own_cells o93) (by omega) (by omega)).mono ?_
  rintro e w100 ⟨rfl, b99⟩
  have zw100 := b99.size
  have B101 := B95.trans (b99.mono B95.size)
  clear B95
  replace o24 := own_below o24 b99
  replace o93 := own_below o93 b99
  replace H9 := Lib.hid ((b99.block _ (Array.getElem?_eq_some_iff.1 H9.out).1).trans H9.out)
  replace H37 := Lib.hid ((b99.block _ (Array.getElem?_eq_some_iff.1 H37.out).1).trans H37.out)
  replace H41 := Lib.hid ((b99.block _ (Array.getElem?_eq_some_iff.1 H41.out).1).trans H41.out)
  replace H55 := Lib.hid ((b99.block _ (Array.getElem?_eq_some_iff.1 H55.out).1).trans H55.out)
  obtain ⟨cc102, cc103⟩ := cells2 H9.out
  have ll104 := (Array.getElem?_eq_some_iff.1 H9.out).1
  go_wp2_with fail
  clear cc102 cc103 ll104
  refine (toFifo_any r0 a0 z0 cap0 w100 (rz0.below B101) (by omega)).mono ?_
  rintro e w109 ⟨a105, c106, rfl, o107, b108⟩
  have zw109 := b108.size
  have B110 := B101.trans (b108.mono B101.size)
  clear B101
  replace o24 := own_below o24 b108
  replace o93 := own_below o93 b108
  replace H9 := Lib.hid ((b108.block _ (Array.getElem?_eq_some_iff.1 H9.out).1).trans H9.out)
  replace H37 := Lib.hid ((b108.block _ (Array.getElem?_eq_some_iff.1 H37.out).1).trans H37.out)
  replace H41 := Lib.hid ((b108.block _ (Array.getElem?_eq_some_iff.1 H41.out).1).trans H41.out)
  replace H55 := Lib.hid ((b108.block _ (Array.getElem?_eq_some_iff.1 H55.out).1).trans H55.out)
  have io107 := own_in o107
  go_wp2_with fail
  refine (implFifoPut_x r0 a105 z0 c106 _ x1 w109 o107 (by omega)).mono ?_
  rintro e w115 ⟨a111, c112, rfl, o113, b114⟩
  have zw115 := b114.size
  have B116 := B110.trans (b114.mono B110.size)
  clear B110
  replace o24 := own_below o24 b114
  replace o93 := own_below o93 b114
  replace o107 := own_below o107 b114
  replace H9 := Lib.hid ((b114.block _ (Array.getElem?_eq_some_iff.1 H9.out).1).trans H9.out)
  replace H37 := Lib.hid ((b114.block _ (Array.getElem?_eq_some_iff.1 H37.out).1).trans H37.out)
  replace H41 := Lib.hid ((b114.block _ (Array.getElem?_eq_some_iff.1 H41.out).1).trans H41.out)
  replace H55 := Lib.hid ((b114.block _ (Array.getElem?_eq_some_iff.1 H55.out).1).trans H55.out)
  have io113 := own_in o113
  clear o107
  obtain ⟨cc117, cc118⟩ := cells2 H37.out
  have ll119 := (Array.getElem?_eq_some_iff.1 H37.out).1
  go_wp2_with fail
  clear cc117 cc118 ll119
  refine name_calls fun W122 hW122 => ?_
  have zW122 : W122.heap.size = w115.heap.size + 1 := by rw [hW122]; simp
  have H1230 := heap_new_at w115 (.cells #[.int .i64 ((putR r0 z0 x1).r), .slice a111 ((putR r0 z0 x1).b).length c112] 25 (0, 0)) _ rfl
  rw [← hW122] at H1230
  have H123 := Lib.hid H1230
  clear H1230
  have B124 := B116.alloc B116.size (.cells #[.int .i64 ((putR r0 z0 x1).r), .slice a111 ((putR r0 z0 x1).b).length c112] 25 (0, 0))
  rw [← hW122] at B124
  clear B116
  replace o24 := World.ownsRow.alloc o24 (.cells #[.int .i64 ((putR r0 z0 x1).r), .slice a111 ((putR r0 z0 x1).b).length c112] 25 (0, 0))
  rw [← hW122] at o24
  replace o93 := World.ownsRow.alloc o93 (.cells #[.int .i64 ((putR r0 z0 x1).r), .slice a111 ((putR r0 z0 x1).b).length c112] 25 (0, 0))
  rw [← hW122] at o93
  replace o113 := World.ownsRow.alloc o113 (.cells #[.int .i64 ((putR r0 z0 x1).r), .slice a111 ((putR r0 z0 x1).b).length c112] 25 (0, 0))
  rw [← hW122] at o113
  have H90 := (Below.heap_alloc w115 (.cells #[.int .i64 ((putR r0 z0 x1).r), .slice a111 ((putR r0 z0 x1).b).length c112] 25 (0, 0)) _ (Array.getElem?_eq_some_iff.1 H9.out).1).trans H9.out
  rw [← hW122] at H90
  clear H9
  have H9 := Lib.hid H90
  clear H90
  have H370 := (Below.heap_alloc w115 (.cells #[.int .i64 ((putR r0 z0 x1).r), .slice a111 ((putR r0 z0 x1).b).length c112] 25 (0, 0)) _ (Array.getElem?_eq_some_iff.1 H37.out).1).trans H37.out
  rw [← hW122] at H370
  clear H37
  have H37 := Lib.hid H370
  clear H370
  have H410 := (Below.heap_alloc w115 (.cells #[.int .i64 ((putR r0 z0 x1).r), .slice a111 ((putR r0 z0 x1).b).length c112] 25 (0, 0)) _ (Array.getElem?_eq_some_iff.1 H41.out).1).trans H41.out
  rw [← hW122] at H410
  clear H41
  have H41 := Lib.hid H410
  clear H410
  have H550 := (Below.heap_alloc w115 (.cells #[.int .i64 ((putR r0 z0 x1).r), .slice a111 ((putR r0 z0 x1).b).length c112] 25 (0, 0)) _ (Array.getElem?_eq_some_iff.1 H55.out).1).trans H55.out
  rw [← hW122] at H550
  clear H55
  have H55 := Lib.hid H550
  clear H550
  clear hW122
  refine (eqFifo_any ((putR r0 z0 x1).r) ((putR r0 z0 x1).r) a111 a22 ((putR r0 z0 x1).b) ((putR r0 z0 x1).b) c112 c23 W122 (own_cells o113) (own_cells o24) (by omega) (by omega)).mono ?_
  rintro e w121 ⟨rfl, b120⟩
  have zw121 := b120.size
  have B125 := B124.trans (b120.mono B124.size)
  clear B124
  replace o24 := own_below o24 b120
  replace o93 := own_below o93 b120
  replace o113 := own_below o113 b120
  replace H9 := Lib.hid ((b120.block _ (Array.getElem?_eq_some_iff.1 H9.out).1).trans H9.out)
  replace H37 := Lib.hid ((b120.block _ (Array.getElem?_eq_some_iff.1 H37.out).1).trans H37.out)
  replace H41 := Lib.hid ((b120.block _ (Array.getElem?_eq_some_iff.1 H41.out).1).trans H41.out)
  replace H55 := Lib.hid ((b120.block _ (Array.getElem?_eq_some_iff.1 H55.out).1).trans H55.out)
  replace H123 := Lib.hid ((b120.block _ (Array.getElem?_eq_some_iff.1 H123.out).1).trans H123.out)
  clear o113
  obtain ⟨cc126, cc127⟩ := cells2 H55.out
  have ll128 := (Array.getElem?_eq_some_iff.1 H55.out).1
  go_wp2_with fail
  clear cc126 cc127 ll128
  refine (heldFifo_any ((putR r0 z0 x1).r) a43 _ c44 1 w121 (own_cells o93) (by omega) (by omega)).mono ?_
  rintro e w130 ⟨rfl, b129⟩
  have zw130 := b129.size
  have B131 := B125.trans (b129.mono B125.size)
  clear B125
  replace o24 := own_below o24 b129
  replace o93 := own_below o93 b129
  replace H9 := Lib.hid ((b129.block _ (Array.getElem?_eq_some_iff.1 H9.out).1).trans H9.out)
  replace H37 := Lib.hid ((b129.block _ (Array.getElem?_eq_some_iff.1 H37.out).1).trans H37.out)
  replace H41 := Lib.hid ((b129.block _ (Array.getElem?_eq_some_iff.1 H41.out).1).trans H41.out)
  replace H55 := Lib.hid ((b129.block _ (Array.getElem?_eq_some_iff.1 H55.out).1).trans H55.out)
  replace H123 := Lib.hid ((b129.block _ (Array.getElem?_eq_some_iff.1 H123.out).1).trans H123.out)
  go_wp2
  go_ret
  exact ⟨rfl, B131⟩

set_option linter.unusedVariables false in
set_option maxRecDepth 100000 in
theorem FnExactFifoPut_lifted (os : Os) (started : os.Started) (H : Type) (enc : TypeId × Value → H) :
    ReturnsInHanded {} Try.checked os 7 .any (Rows.fnExactFifoPutSpec.pre6 enc Try.prog Try.f7 Rows.fnExactFifoPutRow.domain false) (Rows.fnExactFifoPutSpec.post enc Try.prog Try.f7 false true false false) := by
  refine returnsInHanded_of_change (C := Try.checked) own_knob started (by kernel_rfl) Try.func7
    (ChangeSpec.witness6 (enc := enc) (C := Try.checked) false ⟨#[], #[.agg #[.int .i64 0, .slice none 0 0], .int .i64 0], []⟩ 8 (by kernel_rfl) (by kernel_rfl) (by kernel_rfl) (by kernel_rfl)) ?_
  intro W base args ds gs before hval0 hW hcnd _
  have hval : ∀ (j : Nat) t v, Try.f7.params[j]? = some t → args[j]? = some v → Value.okWide Try.prog W .any base t v := hval0
  have hW' := hW
  obtain ⟨p, q, hA0, hV, rfl, hfz, hnd⟩ := hW
  have hA : DataW.TrodAll enc Try.prog W 0 (fun _ => true) true Try.f7.params.toList args.toList ds p := hA0
  rw [Try.params7] at hA hval
  obtain ⟨v0, vs0, d0, ds0, p0, q0, hargs, rfl, rfl, h0, r0⟩ := trodAll_cons hA
  obtain ⟨v1, vs1, d1, ds1, p1, q1, rfl, rfl, rfl, h1, r1⟩ := trodAll_cons r0
  obtain ⟨rfl, rfl, rfl⟩ := trodAll_nil r1
  obtain rfl : args = #[v0, v1] := by cases args; simp_all
  obtain ⟨rfl, rfl⟩ := trodVars_none hV
  have k0 := h0
  have lt0 : ∀ x ∈ p0, x.block < W.heap.size := by obtain ⟨m, hm⟩ := k0; exact DataW.trod_lt m _ _ _ hm
  obtain ⟨rm0, a0, cap0, z0, rfl, lc0, lm0, rz0⟩ := rd_fifo (hval 0 38 v0 rfl rfl) h0
  obtain ⟨x1, rfl, rfl, rfl, wx1⟩ := open_int Try.underlying3 (hval 1 3 v1 rfl rfl) h1
  clear hA0 hval0
  refine (FnExactFifoPut_walk rm0 a0 z0 cap0 x1 W rz0 lc0 lm0 (bd_i64 wx1)).mono fun e W' ⟨he, bel⟩ => ?_
  subst he
  exact ⟨_, rfl, _, _, _, [], _, [], hW', trodAll_mk1 (shut_bool Try.underlying4 _), (trodAll_cons_mk (Below.trod laid_out (by kernel_rfl) (of_decide_eq_true (by kernel_rfl)) k0 bel lt0) (trodAll_cons_mk (shut_int Try.underlying3 wx1) trodAll_mk0)), rfl, bel.frame _, fun h => by cases h⟩

theorem FnExactFifoPut_holds : Rows.FnExactFifoPutSaid :=
  OpenClaim.holds_of_wide 7 Try.f7 rfl rfl rfl rfl rfl rfl rfl ⟨rfl, rfl, rfl, rfl, rfl⟩ rfl rfl rfl rfl rfl (by kernel_rfl) Try.func7 (by kernel_rfl)
    (of_decide_eq_true (by kernel_rfl)) (by unfold Func.isWrapper; first | (rw [if_pos (by decide +kernel)]; kernel_rfl) | (rw [if_neg (by decide +kernel)]; exact ⟨rfl, rfl⟩))
    (fun os started H enc _ => FnExactFifoPut_lifted os started H enc)
end Go.Proofs.Ytfjdmdjoebjciaa
