/- FnExactRecvTick: for all arguments the program's RecvTick answers what the reference's answers, leaves its argument as it was, and its result shares no memory. No condition. -/
import Derived.Test.YtmmdbbnmifpciaaRecvSaid
namespace Go.Proofs.Ytmmdbbnmifpciaa
open Go.ChangeShapes Go.WideShapes Go.ChangeAt Go.RowKit

set_option maxHeartbeats 4000000 in
set_option maxRecDepth 100000 in
theorem FnExactRecvTick_walk (r0 : Int) (t0 : Int) (l0 : Bool) (g0 : Int) (a0 : Option Addr) (z0 : List Gt) (cap0 : Nat) (w : World) (rz0 : Gts w a0 z0) (_lc0 : z0.length ≤ cap0) (lm0 : cap0 ≤ maxLen) :
    Calls Try.prog 8 #[.agg #[.int .i64 r0, .int .i64 t0, .slice a0 z0.length cap0, .bool l0, .int .i64 g0]] w fun e w' => e = .returned (.bool true) ∧ Below w.heap.size w w' := by
  unfold maxLen at lm0
  by_cases hn0 : (z0.length : Int) ≤ 1048576
  case neg =>
    have hn0' : (1048576 : Int) < (z0.length : Int) := by omega
    go_enter Try.func8, Try.ntmps8
    go_wp2_with fail
    refine name_calls fun W1 hW1 => ?_
    have B2 : Below w.heap.size w W1 := by
      rw [hW1]
      repeat' (first | exact Below.refl _ _ | exact Nat.le_refl _ | assumption | refine Below.drew ?_ | refine below_drewN ?_ _ | (refine Below.alloc ?_ (by first | exact Nat.le_refl _ | omega | (simp; done) | (simp; omega)) _) | (refine Below.setCell ?_ (by first | exact Nat.le_refl _ | omega | (simp; done) | (simp; omega)) _))
    have H3 := Lib.hid (show W1.heap[w.heap.size]? = some (.cells #[.int .i64 r0, .int .i64 t0, .slice a0 z0.length cap0, .bool l0, .int .i64 g0] 41 (0, 0)) by rw [hW1]; exact heap_new_at _ _ _ rfl)
    have zW1 : W1.heap.size = w.heap.size + 1 := by rw [hW1]; simp
    clear hW1
    refine (szReceiver_no r0 t0 l0 g0 a0 _ cap0 1048576 W1 hn0' (by omega) (by omega)).mono ?_
    rintro e w5 ⟨rfl, b4⟩
    have zw5 := b4.size
    have B6 := B2.trans (b4.mono B2.size)
    clear B2
    replace H3 := Lib.hid ((b4.block _ (Array.getElem?_eq_some_iff.1 H3.out).1).trans H3.out)
    go_wp2
    go_ret
    exact ⟨rfl, B6⟩
  go_enter Try.func8, Try.ntmps8
  go_wp2_with fail
  refine name_calls fun W7 hW7 => ?_
  have B8 : Below w.heap.size w W7 := by
    rw [hW7]
    repeat' (first | exact Below.refl _ _ | exact Nat.le_refl _ | assumption | refine Below.drew ?_ | refine below_drewN ?_ _ | (refine Below.alloc ?_ (by first | exact Nat.le_refl _ | omega | (simp; done) | (simp; omega)) _) | (refine Below.setCell ?_ (by first | exact Nat.le_refl _ | omega | (simp; done) | (simp; omega)) _))
  have H9 := Lib.hid (show W7.heap[w.heap.size]? = some (.cells #[.int .i64 r0, .int .i64 t0, .slice a0 z0.length cap0, .bool l0, .int .i64 g0] 41 (0, 0)) by rw [hW7]; exact heap_new_at _ _ _ rfl)
  have zW7 : W7.heap.size = w.heap.size + 1 := by rw [hW7]; simp
  clear hW7
  refine (szReceiver_yes r0 t0 l0 g0 a0 _ cap0 1048576 W7 hn0 (by omega)).mono ?_
  rintro e w11 ⟨rfl, b10⟩
  have zw11 := b10.size
  have B12 := B8.trans (b10.mono B8.size)
  clear B8
  replace H9 := Lib.hid ((b10.block _ (Array.getElem?_eq_some_iff.1 H9.out).1).trans H9.out)
  have lr := rtickR_len r0 t0 z0 l0 g0
  obtain ⟨cc13, cc14, cc15, cc16, cc17⟩ := cells5 H9.out
  have ll18 := (Array.getElem?_eq_some_iff.1 H9.out).1
  go_wp2_with fail
  clear cc13 cc14 cc15 cc16 cc17 ll18
  refine (toReceiver_any r0 t0 l0 g0 a0 z0 cap0 w11 (rz0.below B12) (by omega)).mono ?_
  rintro e w23 ⟨a19, c20, rfl, o21, b22⟩
  have zw23 := b22.size
  have B24 := B12.trans (b22.mono B12.size)
  clear B12
  replace H9 := Lib.hid ((b22.block _ (Array.getElem?_eq_some_iff.1 H9.out).1).trans H9.out)
  have io21 := own_in o21
  go_wp2_with fail
  refine (specRecvTick_x r0 t0 l0 g0 a19 z0 c20 _ w23 o21 (by omega)).mono ?_
  rintro e w29 ⟨a25, c26, rfl, o27, b28⟩
  have zw29 := b28.size
  have B30 := B24.trans (b28.mono B24.size)
  clear B24
  replace o21 := own_below o21 b28
  replace H9 := Lib.hid ((b28.block _ (Array.getElem?_eq_some_iff.1 H9.out).1).trans H9.out)
  have io27 := own_in o27
  clear o21
  obtain ⟨cc31, cc32, cc33, cc34, cc35⟩ := cells5 H9.out
  have ll36 := (Array.getElem?_eq_some_iff.1 H9.out).1
  go_wp2_with fail
  clear cc31 cc32 cc33 cc34 cc35 ll36
  refine name_calls fun W42 hW42 => ?_
  have zW42 : W42.heap.size = w29.heap.size + 1 := by rw [hW42]; simp
  have H430 := heap_new_at w29 (.cells #[.int .i64 ((rtickR r0 t0 z0 l0 g0).r), .int .i64 ((rtickR r0 t0 z0 l0 g0).t), .slice a25 ((rtickR r0 t0 z0 l0 g0).g).length c26, .bool ((rtickR r0 t0 z0 l0 g0).l), .int .i64 ((rtickR r0 t0 z0 l0 g0).a)] 25 (0, 0)) _ rfl
  rw [← hW42] at H430
  have H43 := Lib.hid H430
  clear H430
  have B44 := B30.alloc B30.size (.cells #[.int .i64 ((rtickR r0 t0 z0 l0 g0).r), .int .i64 ((rtickR r0 t0 z0 l0 g0).t), .slice a25 ((rtickR r0 t0 z0 l0 g0).g).length c26, .bool ((rtickR r0 t0 z0 l0 g0).l), .int .i64 ((rtickR r0 t0 z0 l0 g0).a)] 25 (0, 0))
  rw [← hW42] at B44
  clear B30
  replace o27 := World.ownsRow.alloc o27 (.cells #[.int .i64 ((rtickR r0 t0 z0 l0 g0).r), .int .i64 ((rtickR r0 t0 z0 l0 g0).t), .slice a25 ((rtickR r0 t0 z0 l0 g0).g).length c26, .bool ((rtickR r0 t0 z0 l0 g0).l), .int .i64 ((rtickR r0 t0 z0 l0 g0).a)] 25 (0, 0))
  rw [← hW42] at o27
  have H90 := (Below.heap_alloc w29 (.cells #[.int .i64 ((rtickR r0 t0 z0 l0 g0).r), .int .i64 ((rtickR r0 t0 z0 l0 g0).t), .slice a25 ((rtickR r0 t0 z0 l0 g0).g).length c26, .bool ((rtickR r0 t0 z0 l0 g0).l), .int .i64 ((rtickR r0 t0 z0 l0 g0).a)] 25 (0, 0)) _ (Array.getElem?_eq_some_iff.1 H9.out).1).trans H9.out
  rw [← hW42] at H90
  clear H9
  have H9 := Lib.hid H90
  clear H90
  clear hW42
  refine (toReceiver_any r0 t0 l0 g0 a0 z0 cap0 W42 (rz0.below B44) (by omega)).mono ?_
  rintro e w41 ⟨a37, c38, rfl, o39, b40⟩
  have zw41 := b40.size
  have B45 := B44.trans (b40.mono B44.size)
  clear B44
  replace o27 := own_below o27 b40
  replace H9 := Lib.hid ((b40.block _ (Array.getElem?_eq_some_iff.1 H9.out).1).trans H9.out)
  replace H43 := Lib.hid ((b40.block _ (Array.getElem?_eq_some_iff.1 H43.out).1).trans H43.out)
  have io39 := own_in o39
  go_wp2_with fail
  refine name_calls fun W46 hW46 => ?_
  have zW46 : W46.heap.size = w41.heap.size + 1 := by rw [hW46]; simp
  have H470 := heap_new_at w41 (.cells #[.int .i64 r0, .int .i64 t0, .slice a37 z0.length c38, .bool l0, .int .i64 g0] 25 (0, 0)) _ rfl
  rw [← hW46] at H470
  have H47 := Lib.hid H470
  clear H470
  have B48 := B45.alloc B45.size (.cells #[.int .i64 r0, .int .i64 t0, .slice a37 z0.length c38, .bool l0, .int .i64 g0] 25 (0, 0))
  rw [← hW46] at B48
  clear B45
  replace o27 := World.ownsRow.alloc o27 (.cells #[.int .i64 r0, .int .i64 t0, .slice a37 z0.length c38, .bool l0, .int .i64 g0] 25 (0, 0))
  rw [← hW46] at o27
  replace o39 := World.ownsRow.alloc o39 (.cells #[.int .i64 r0, .int .i64 t0, .slice a37 z0.length c38, .bool l0, .int .i64 g0] 25 (0, 0))
  rw [← hW46] at o39
  have H90 := (Below.heap_alloc w41 (.cells #[.int .i64 r0, .int .i64 t0, .slice a37 z0.length c38, .bool l0, .int .i64 g0] 25 (0, 0)) _ (Array.getElem?_eq_some_iff.1 H9.out).1).trans H9.out
  rw [← hW46] at H90
  clear H9
  have H9 := Lib.hid H90
  clear H90
  have H430 := (Below.heap_alloc w41 (.cells #[.int .i64 r0, .int .i64 t0, .slice a37 z0.length c38, .bool l0, .int .i64 g0] 25 (0, 0)) _ (Array.getElem?_eq_some_iff.1 H43.out).1).trans H43.out
  rw [← hW46] at H430
  clear H43
  have H43 := Lib.hid H430
  clear H430
  clear hW46
  refine (implRecvTick_x r0 t0 l0 g0 a37 z0 c38 _ W46 o39 (by omega)).mono ?_
  rintro e w53 ⟨a49, c50, rfl, o51, b52⟩
  have zw53 := b52.size
  have B54 := B48.trans (b52.mono B48.size)
  clear B48
  replace o27 := own_below o27 b52
  replace o39 := own_below o39 b52
  replace H9 := Lib.hid ((b52.block _ (Array.getElem?_eq_some_iff.1 H9.out).1).trans H9.out)
  replace H43 := Lib.hid ((b52.block _ (Array.getElem?_eq_some_iff.1 H43.out).1).trans H43.out)
  replace H47 := Lib.hid ((b52.block _ (Array.getElem?_eq_some_iff.1 H47.out).1).trans H47.out)
  have io51 := own_in o51
  obtain ⟨cc55, cc56, cc57, cc58, cc59⟩ := cells5 H43.out
  have ll60 := (Array.getElem?_eq_some_iff.1 H43.out).1
  go_wp2_with fail
  clear cc55 cc56 cc57 cc58 cc59 ll60
  refine name_calls fun W63 hW63 => ?_
  have zW63 : W63.heap.size = w53.heap.size + 1 := by rw [hW63]; simp
  have H640 := heap_new_at w53 (.cells #[.int .i64 ((rtickR r0 t0 z0 l0 g0).r), .int .i64 ((rtickR r0 t0 z0 l0 g0).t), .slice a49 ((rtickR r0 t0 z0 l0 g0).g).length c50, .bool ((rtickR r0 t0 z0 l0 g0).l), .int .i64 ((rtickR r0 t0 z0 l0 g0).a)] 25 (0, 0)) _ rfl
  rw [← hW63] at H640
  have H64 := Lib.hid H640
  clear H640
  have B65 := B54.alloc B54.size (.cells #[.int .i64 ((rtickR r0 t0 z0 l0 g0).r), .int .i64 ((rtickR r0 t0 z0 l0 g0).t), .slice a49 ((rtickR r0 t0 z0 l0 g0).g).length c50, .bool ((rtickR r0 t0 z0 l0 g0).l), .int .i64 ((rtickR r0 t0 z0 l0 g0).a)] 25 (0, 0))
  rw [← hW63] at B65
  clear B54
  replace o27 := World.ownsRow.alloc o27 (.cells #[.int .i64 ((rtickR r0 t0 z0 l0 g0).r), .int .i64 ((rtickR r0 t0 z0 l0 g0).t), .slice a49 ((rtickR r0 t0 z0 l0 g0).g).length c50, .bool ((rtickR r0 t0 z0 l0 g0).l), .int .i64 ((rtickR r0 t0 z0 l0 g0).a)] 25 (0, 0))
  rw [← hW63] at o27
  replace o39 := World.ownsRow.alloc o39 (.cells #[.int .i64 ((rtickR r0 t0 z0 l0 g0).r), .int .i64 ((rtickR r0 t0 z0 l0 g0).t), .slice a49 ((rtickR r0 t0 z0 l0 g0).g).length c50, .bool ((rtickR r0 t0 z0 l0 g0).l), .int .i64 ((rtickR r0 t0 z0 l0 g0).a)] 25 (0, 0))
  rw [← hW63] at o39
  replace o51 := World.ownsRow.alloc o51 (.cells #[.int .i64 ((rtickR r0 t0 z0 l0 g0).r), .int .i64 ((rtickR r0 t0 z0 l0 g0).t), .slice a49 ((rtickR r0 t0 z0 l0 g0).g).length c50, .bool ((rtickR r0 t0 z0 l0 g0).l), .int .i64 ((rtickR r0 t0 z0 l0 g0).a)] 25 (0, 0))
  rw [← hW63] at o51
  have H90 := (Below.heap_alloc w53 (.cells #[.int .i64 ((rtickR r0 t0 z0 l0 g0).r), .int .i64 ((rtickR r0 t0 z0 l0 g0).t), .slice a49 ((rtickR r0 t0 z0 l0 g0).g).length c50, .bool ((rtickR r0 t0 z0 l0 g0).l), .int .i64 ((rtickR r0 t0 z0 l0 g0).a)] 25 (0, 0)) _ (Array.getElem?_eq_some_iff.1 H9.out).1).trans H9.out
  rw [← hW63] at H90
  clear H9
  have H9 := Lib.hid H90
  clear H90
  have H430 := (Below.heap_alloc w53 (.cells #[.int .i64 ((rtickR r0 t0 z0 l0 g0).r), .int .i64 ((rtickR r0 t0 z0 l0 g0).t), .slice a49 ((rtickR r0 t0 z0 l0 g0).g).length c50, .bool ((rtickR r0 t0 z0 l0 g0).l), .int .i64 ((rtickR r0 t0 z0 l0 g0).a)] 25 (0, 0)) _ (Array.getElem?_eq_some_iff.1 H43.out).1).trans H43.out
  rw [← hW63] at H430
  clear H43
  have H43 := Lib.hid H430
  clear H430
  have H470 := (Below.heap_alloc w53 (.cells #[.int .i64 ((rtickR r0 t0 z0 l0 g0).r), .int .i64 ((rtickR r0 t0 z0 l0 g0).t), .slice a49 ((rtickR r0 t0 z0 l0 g0).g).length c50, .bool ((rtickR r0 t0 z0 l0 g0).l), .int .i64 ((rtickR r0 t0 z0 l0 g0).a)] 25 (0, 0)) _ (Array.getElem?_eq_some_iff.1 H47.out).1).trans H47.out
  rw [← hW63] at H470
  clear H47
  have H47 := Lib.hid H470
  clear H470
  clear hW63
  refine (eqReceiver_any ((rtickR r0 t0 z0 l0 g0).r) ((rtickR r0 t0 z0 l0 g0).t) ((rtickR r0 t0 z0 l0 g0).l) ((rtickR r0 t0 z0 l0 g0).a) ((rtickR r0 t0 z0 l0 g0).r) ((rtickR r0 t0 z0 l0 g0).t) ((rtickR r0 t0 z0 l0 g0).l) ((rtickR r0 t0 z0 l0 g0).a) a49 a25 ((rtickR r0 t0 z0 l0 g0).g) ((rtickR r0 t0 z0 l0 g0).g) c50 c26 W63 (own_cells o51) (own_cells o27) (by omega) (by omega)).mono ?_
  rintro e w62 ⟨rfl, b61⟩
  have zw62 := b61.size
  have B66 := B65.trans (b61.mono B65.size)
  clear B65
  replace o27 := own_below o27 b61
  replace o39 := own_below o39 b61
  replace o51 := own_below o51 b61
  replace H9 := Lib.hid ((b61.block _ (Array.getElem?_eq_some_iff.1 H9.out).1).trans H9.out)
  replace H43 := Lib.hid ((b61.block _ (Array.getElem?_eq_some_iff.1 H43.out).1).trans H43.out)
  replace H47 := Lib.hid ((b61.block _ (Array.getElem?_eq_some_iff.1 H47.out).1).trans H47.out)
  replace H64 := Lib.hid ((b61.block _ (Array.getElem?_eq_some_iff.1 H64.out).1).trans H64.out)
  obtain ⟨cc67, cc68, cc69, cc70, cc71⟩ := cells5 H47.out
  have ll72 := (Array.getElem?_eq_some_iff.1 H47.out).1
  obtain ⟨cc73, cc74, cc75, cc76, cc77⟩ := cells5 H9.out
  have ll78 := (Array.getElem?_eq_some_iff.1 H9.out).1
  go_wp2_with fail
  go_region_held3 (fun v => v.cell? ⟨w41.heap.size, 0, none⟩ = some (.int .i64 r0) ∧ v.cell? ⟨w41.heap.size, 1, none⟩ = some (.int .i64 t0) ∧ v.cell? ⟨w41.heap.size, 2, none⟩ = some (.slice a37 z0.length c38) ∧ v.cell? ⟨w41.heap.size, 3, none⟩ = some (.bool l0) ∧ v.cell? ⟨w41.heap.size, 4, none⟩ = some (.int .i64 g0) ∧ v.cell? ⟨w.heap.size, 0, none⟩ = some (.int .i64 r0) ∧ v.cell? ⟨w.heap.size, 1, none⟩ = some (.int .i64 t0) ∧ v.cell? ⟨w.heap.size, 2, none⟩ = some (.slice a0 z0.length cap0) ∧ v.cell? ⟨w.heap.size, 3, none⟩ = some (.bool l0) ∧ v.cell? ⟨w.heap.size, 4, none⟩ = some (.int .i64 g0))
    (go_keep)
    (first
      | (go_at_call 23
         refine (toReceiver_any r0 t0 l0 g0 a0 z0 cap0 _ (Cells.drew (rz0.below B66)) (by omega)).mono ?_
         rintro e w79 ⟨a81, c82, rfl, o83, b840⟩
         have b84 : Below w62.heap.size w62 w79 := (Below.refl _ w62).drew.trans b840
         have cc67A := Keeps.of_below b84 _ _ _ cc67
         have cc68A := Keeps.of_below b84 _ _ _ cc68
         have cc69A := Keeps.of_below b84 _ _ _ cc69
         have cc70A := Keeps.of_below b84 _ _ _ cc70
         have cc71A := Keeps.of_below b84 _ _ _ cc71
         have cc73A := Keeps.of_below b84 _ _ _ cc73
         have cc74A := Keeps.of_below b84 _ _ _ cc74
         have cc75A := Keeps.of_below b84 _ _ _ cc75
         have cc76A := Keeps.of_below b84 _ _ _ cc76
         have cc77A := Keeps.of_below b84 _ _ _ cc77
         skip)
      | (go_at_call 25
         refine (eqReceiver_any r0 t0 l0 g0 r0 t0 l0 g0 a37 a81 z0 z0 c38 c82 _ (own_cells (own_below o39 b84)) (own_cells o83) (by omega) (by omega)).mono ?_
         rintro e w80 ⟨rfl, b85⟩
         have cc67B := Keeps.of_below b85 _ _ _ cc67A
         have cc68B := Keeps.of_below b85 _ _ _ cc68A
         have cc69B := Keeps.of_below b85 _ _ _ cc69A
         have cc70B := Keeps.of_below b85 _ _ _ cc70A
         have cc71B := Keeps.of_below b85 _ _ _ cc71A
         have cc73B := Keeps.of_below b85 _ _ _ cc73A
         have cc74B := Keeps.of_below b85 _ _ _ cc74A
         have cc75B := Keeps.of_below b85 _ _ _ cc75A
         have cc76B := Keeps.of_below b85 _ _ _ cc76A
         have cc77B := Keeps.of_below b85 _ _ _ cc77A
         skip))
  have b86 := below_join b84 b85
  clear ll72 ll78 cc67 cc67A cc67B cc68 cc68A cc68B cc69 cc69A cc69B cc70 cc70A cc70B cc71 cc71A cc71B cc73 cc73A cc73B cc74 cc74A cc74B cc75 cc75A cc75B cc76 cc76A cc76B cc77 cc77A cc77B o83
  have zw80 := b86.size
  have B87 := B66.trans (b86.mono B66.size)
  clear B66
  replace o27 := own_below o27 b86
  replace o39 := own_below o39 b86
  replace o51 := own_below o51 b86
  replace H9 := Lib.hid ((b86.block _ (Array.getElem?_eq_some_iff.1 H9.out).1).trans H9.out)
  replace H43 := Lib.hid ((b86.block _ (Array.getElem?_eq_some_iff.1 H43.out).1).trans H43.out)
  replace H47 := Lib.hid ((b86.block _ (Array.getElem?_eq_some_iff.1 H47.out).1).trans H47.out)
  replace H64 := Lib.hid ((b86.block _ (Array.getElem?_eq_some_iff.1 H64.out).1).trans H64.out)
  clear b84 b85 b840
  obtain ⟨cc88, cc89, cc90, cc91, cc92⟩ := cells5 H47.out
  have ll93 := (Array.getElem?_eq_some_iff.1 H47.out).1
  go_wp2_with fail
  clear cc88 cc89 cc90 cc91 cc92 ll93
  refine (markReceiver_any _ r0 t0 l0 g0 a37 _ c38 1 _ w80 o39 (by omega) (by omega)).mono ?_
  rintro e w94 ⟨rfl, o95, g96⟩
  have zw94 := g96.size
  have B97 := below_mark B87 io39 (by omega) B87.size g96
  clear B87
  replace o27 := own_apart o27 io27 io39 (by omega) g96
  replace o51 := own_apart o51 io51 io39 (by omega) g96
  replace H9 := Lib.hid (box_mark H9.out io39 (by omega) g96)
  replace H43 := Lib.hid (box_mark H43.out io39 (by omega) g96)
  replace H47 := Lib.hid (box_mark H47.out io39 (by omega) g96)
  replace H64 := Lib.hid (box_mark H64.out io39 (by omega) g96)
  clear o39 g96
  clear o95
  obtain ⟨cc98, cc99, cc100, cc101, cc102⟩ := cells5 H64.out
  have ll103 := (Array.getElem?_eq_some_iff.1 H64.out).1
  obtain ⟨cc104, cc105, cc106, cc107, cc108⟩ := cells5 H43.out
  have ll109 := (Array.getElem?_eq_some_iff.1 H43.out).1
  go_wp2_with fail
  clear cc98 cc99 cc100 cc101 cc102 ll103 cc104 cc105 cc106 cc107 cc108 ll109
  refine (eqReceiver_any ((rtickR r0 t0 z0 l0 g0).r) ((rtickR r0 t0 z0 l0 g0).t) ((rtickR r0 t0 z0 l0 g0).l) ((rtickR r0 t0 z0 l0 g0).a) ((rtickR r0 t0 z0 l0 g0).r) ((rtickR r0 t0 z0 l0 g0).t) ((rtickR r0 t0 z0 l0 g0).l) ((rtickR r0 t0 z0 l0 g0).a) a49 a25 ((rtickR r0 t0 z0 l0 g0).g) ((rtickR r0 t0 z0 l0 g0).g) c50 c26 w94 (own_cells o51) (own_cells o27) (by omega) (by omega)).mono ?_
  rintro e w111 ⟨rfl, b110⟩
  have zw111 := b110.size
  have B112 := B97.trans (b110.mono B97.size)
  clear B97
  replace o27 := own_below o27 b110
  replace o51 := own_below o51 b110
  replace H9 := Lib.hid ((b110.block _ (Array.getElem?_eq_some_iff.1 H9.out).1).trans H9.out)
  replace H43 := Lib.hid ((b110.block _ (Array.getElem?_eq_some_iff.1 H43.out).1).trans H43.out)
  replace H47 := Lib.hid ((b110.block _ (Array.getElem?_eq_some_iff.1 H47.out).1).trans H47.out)
  replace H64 := Lib.hid ((b110.block _ (Array.getElem?_eq_some_iff.1 H64.out).1).trans H64.out)
  obtain ⟨cc113, cc114, cc115, cc116, cc117⟩ := cells5 H64.out
  have ll118 := (Array.getElem?_eq_some_iff.1 H64.out).1
  go_wp2_with fail
  clear cc113 cc114 cc115 cc116 cc117 ll118
  refine (markReceiver_any _ ((rtickR r0 t0 z0 l0 g0).r) ((rtickR r0 t0 z0 l0 g0).t) ((rtickR r0 t0 z0 l0 g0).l) ((rtickR r0 t0 z0 l0 g0).a) a49 _ c50 1 _ w111 o51 (by omega) (by omega)).mono ?_
  rintro e w119 ⟨rfl, o120, g121⟩
  have zw119 := g121.size
  have B122 := below_mark B112 io51 (by omega) B112.size g121
  clear B112
  replace o27 := own_apart o27 io27 io51 (by omega) g121
  replace H9 := Lib.hid (box_mark H9.out io51 (by omega) g121)
  replace H43 := Lib.hid (box_mark H43.out io51 (by omega) g121)
  replace H47 := Lib.hid (box_mark H47.out io51 (by omega) g121)
  replace H64 := Lib.hid (box_mark H64.out io51 (by omega) g121)
  clear o51 g121
  obtain ⟨cc123, cc124, cc125, cc126, cc127⟩ := cells5 H64.out
  have ll128 := (Array.getElem?_eq_some_iff.1 H64.out).1
  go_wp2_with fail
  clear cc123 cc124 cc125 cc126 cc127 ll128
  refine (heldReceiver_any ((rtickR r0 t0 z0 l0 g0).r) ((rtickR r0 t0 z0 l0 g0).t) ((rtickR r0 t0 z0 l0 g0).l) ((rtickR r0 t0 z0 l0 g0).a) a49 _ c50 1 w119 (own_cells o120) (by omega) (by omega)).mono ?_
  rintro e w130 ⟨rfl, b129⟩
  have zw130 := b129.size
  have B131 := B122.trans (b129.mono B122.size)
  clear B122
  replace o27 := own_below o27 b129
  replace o120 := own_below o120 b129
  replace H9 := Lib.hid ((b129.block _ (Array.getElem?_eq_some_iff.1 H9.out).1).trans H9.out)
  replace H43 := Lib.hid ((b129.block _ (Array.getElem?_eq_some_iff.1 H43.out).1).trans H43.out)
  replace H47 := Lib.hid ((b129.block _ (Array.getElem?_eq_some_iff.1 H47.out).1).trans H47.out)
  replace H64 := Lib.hid ((b129.block _ (Array.getElem?_eq_some_iff.1 H64.out).1).trans H64.out)
  obtain ⟨cc132, cc133, cc134, cc135, cc136⟩ := cells5 H9.out
  have ll137 := (Array.getElem?_eq_some_iff.1 H9.out).1
  go_wp2_with fail
  clear cc132 cc133 cc134 cc135 cc136 ll137
  refine (toReceiver_any r0 t0 l0 g0 a0 z0 cap0 w130 (rz0.below B131) (by omega)).mono ?_
  rintro e w142 ⟨a138, c139, rfl, o140, b141⟩
  have zw142 := b141.size
  have B143 := B131.trans (b141.mono B131.size)
  clear B131
  replace o27 := own_below o27 b141
  replace o120 := own_below o120 b141
  replace H9 := Lib.hid ((b141.block _ (Array.getElem?_eq_some_iff.1 H9.out).1).trans H9.out)
  replace H43 := Lib.hid ((b141.block _ (Array.getElem?_eq_some_iff.1 H43.out).1).trans H43.out)
  replace H47 := Lib.hid ((b141.block _ (Array.getElem?_eq_some_iff.1 H47.out).1).trans H47.out)
  replace H64 := Lib.hid ((b141.block _ (Array.getElem?_eq_some_iff.1 H64.out).1).trans H64.out)
  have io140 := own_in o140
  go_wp2_with fail
  refine (implRecvTick_x r0 t0 l0 g0 a138 z0 c139 _ w142 o140 (by omega)).mono ?_
  rintro e w148 ⟨a144, c145, rfl, o146, b147⟩
  have zw148 := b147.size
  have B149 := B143.trans (b147.mono B143.size)
  clear B143
  replace o27 := own_below o27 b147
  replace o120 := own_below o120 b147
  replace o140 := own_below o140 b147
  replace H9 := Lib.hid ((b147.block _ (Array.getElem?_eq_some_iff.1 H9.out).1).trans H9.out)
  replace H43 := Lib.hid ((b147.block _ (Array.getElem?_eq_some_iff.1 H43.out).1).trans H43.out)
  replace H47 := Lib.hid ((b147.block _ (Array.getElem?_eq_some_iff.1 H47.out).1).trans H47.out)
  replace H64 := Lib.hid ((b147.block _ (Array.getElem?_eq_some_iff.1 H64.out).1).trans H64.out)
  have io146 := own_in o146
  clear o140
  obtain ⟨cc150, cc151, cc152, cc153, cc154⟩ := cells5 H43.out
  have ll155 := (Array.getElem?_eq_some_iff.1 H43.out).1
  go_wp2_with fail
  clear cc150 cc151 cc152 cc153 cc154 ll155
  refine name_calls fun W158 hW158 => ?_
  have zW158 : W158.heap.size = w148.heap.size + 1 := by rw [hW158]; simp
  have H1590 := heap_new_at w148 (.cells #[.int .i64 ((rtickR r0 t0 z0 l0 g0).r), .int .i64 ((rtickR r0 t0 z0 l0 g0).t), .slice a144 ((rtickR r0 t0 z0 l0 g0).g).length c145, .bool ((rtickR r0 t0 z0 l0 g0).l), .int .i64 ((rtickR r0 t0 z0 l0 g0).a)] 25 (0, 0)) _ rfl
  rw [← hW158] at H1590
  have H159 := Lib.hid H1590
  clear H1590
  have B160 := B149.alloc B149.size (.cells #[.int .i64 ((rtickR r0 t0 z0 l0 g0).r), .int .i64 ((rtickR r0 t0 z0 l0 g0).t), .slice a144 ((rtickR r0 t0 z0 l0 g0).g).length c145, .bool ((rtickR r0 t0 z0 l0 g0).l), .int .i64 ((rtickR r0 t0 z0 l0 g0).a)] 25 (0, 0))
  rw [← hW158] at B160
  clear B149
  replace o27 := World.ownsRow.alloc o27 (.cells #[.int .i64 ((rtickR r0 t0 z0 l0 g0).r), .int .i64 ((rtickR r0 t0 z0 l0 g0).t), .slice a144 ((rtickR r0 t0 z0 l0 g0).g).length c145, .bool ((rtickR r0 t0 z0 l0 g0).l), .int .i64 ((rtickR r0 t0 z0 l0 g0).a)] 25 (0, 0))
  rw [← hW158] at o27
  replace o120 := World.ownsRow.alloc o120 (.cells #[.int .i64 ((rtickR r0 t0 z0 l0 g0).r), .int .i64 ((rtickR r0 t0 z0 l0 g0).t), .slice a144 ((rtickR r0 t0 z0 l0 g0).g).length c145, .bool ((rtickR r0 t0 z0 l0 g0).l), .int .i64 ((rtickR r0 t0 z0 l0 g0).a)] 25 (0, 0))
  rw [← hW158] at o120
  replace o146 := World.ownsRow.alloc o146 (.cells #[.int .i64 ((rtickR r0 t0 z0 l0 g0).r), .int .i64 ((rtickR r0 t0 z0 l0 g0).t), .slice a144 ((rtickR r0 t0 z0 l0 g0).g).length c145, .bool ((rtickR r0 t0 z0 l0 g0).l), .int .i64 ((rtickR r0 t0 z0 l0 g0).a)] 25 (0, 0))
  rw [← hW158] at o146
  have H90 := (Below.heap_alloc w148 (.cells #[.int .i64 ((rtickR r0 t0 z0 l0 g0).r), .int .i64 ((rtickR r0 t0 z0 l0 g0).t), .slice a144 ((rtickR r0 t0 z0 l0 g0).g).length c145, .bool ((rtickR r0 t0 z0 l0 g0).l), .int .i64 ((rtickR r0 t0 z0 l0 g0).a)] 25 (0, 0)) _ (Array.getElem?_eq_some_iff.1 H9.out).1).trans H9.out
  rw [← hW158] at H90
  clear H9
  have H9 := Lib.hid H90
  clear H90
  have H430 := (Below.heap_alloc w148 (.cells #[.int .i64 ((rtickR r0 t0 z0 l0 g0).r), .int .i64 ((rtickR r0 t0 z0 l0 g0).t), .slice a144 ((rtickR r0 t0 z0 l0 g0).g).length c145, .bool ((rtickR r0 t0 z0 l0 g0).l), .int .i64 ((rtickR r0 t0 z0 l0 g0).a)] 25 (0, 0)) _ (Array.getElem?_eq_some_iff.1 H43.out).1).trans H43.out
  rw [← hW158] at H430
  clear H43
  have H43 := Lib.hid H430
  clear H430
  have H470 := (Below.heap_alloc w148 (.cells #[.int .i64 ((rtickR r0 t0 z0 l0 g0).r), .int .i64 ((rtickR r0 t0 z0 l0 g0).t), .slice a144 ((rtickR r0 t0 z0 l0 g0).g).length c145, .bool ((rtickR r0 t0 z0 l0 g0).l), .int .i64 ((rtickR r0 t0 z0 l0 g0).a)] 25 (0, 0)) _ (Array.getElem?_eq_some_iff.1 H47.out).1).trans H47.out
  rw [← hW158] at H470
  clear H47
  have H47 := Lib.hid H470
  clear H470
  have H640 := (Below.heap_alloc w148 (.cells #[.int .i64 ((rtickR r0 t0 z0 l0 g0).r), .int .i64 ((rtickR r0 t0 z0 l0 g0).t), .slice a144 ((rtickR r0 t0 z0 l0 g0).g).length c145, .bool ((rtickR r0 t0 z0 l0 g0).l), .int .i64 ((rtickR r0 t0 z0 l0 g0).a)] 25 (0, 0)) _ (Array.getElem?_eq_some_iff.1 H64.out).1).trans H64.out
  rw [← hW158] at H640
  clear H64
  have H64 := Lib.hid H640
  clear H640
  clear hW158
  refine (eqReceiver_any ((rtickR r0 t0 z0 l0 g0).r) ((rtickR r0 t0 z0 l0 g0).t) ((rtickR r0 t0 z0 l0 g0).l) ((rtickR r0 t0 z0 l0 g0).a) ((rtickR r0 t0 z0 l0 g0).r) ((rtickR r0 t0 z0 l0 g0).t) ((rtickR r0 t0 z0 l0 g0).l) ((rtickR r0 t0 z0 l0 g0).a) a144 a25 ((rtickR r0 t0 z0 l0 g0).g) ((rtickR r0 t0 z0 l0 g0).g) c145 c26 W158 (own_cells o146) (own_cells o27) (by omega) (by omega)).mono ?_
  rintro e w157 ⟨rfl, b156⟩
  have zw157 := b156.size
  have B161 := B160.trans (b156.mono B160.size)
  clear B160
  replace o27 := own_below o27 b156
  replace o120 := own_below o120 b156
  replace o146 := own_below o146 b156
  replace H9 := Lib.hid ((b156.block _ (Array.getElem?_eq_some_iff.1 H9.out).1).trans H9.out)
  replace H43 := Lib.hid ((b156.block _ (Array.getElem?_eq_some_iff.1 H43.out).1).trans H43.out)
  replace H47 := Lib.hid ((b156.block _ (Array.getElem?_eq_some_iff.1 H47.out).1).trans H47.out)
  replace H64 := Lib.hid ((b156.block _ (Array.getElem?_eq_some_iff.1 H64.out).1).trans H64.out)
  replace H159 := Lib.hid ((b156.block _ (Array.getElem?_eq_some_iff.1 H159.out).1).trans H159.out)
  clear o146
  obtain ⟨cc162, cc163, cc164, cc165, cc166⟩ := cells5 H64.out
  have ll167 := (Array.getElem?_eq_some_iff.1 H64.out).1
  go_wp2_with fail
  clear cc162 cc163 cc164 cc165 cc166 ll167
  refine (heldReceiver_any ((rtickR r0 t0 z0 l0 g0).r) ((rtickR r0 t0 z0 l0 g0).t) ((rtickR r0 t0 z0 l0 g0).l) ((rtickR r0 t0 z0 l0 g0).a) a49 _ c50 1 w157 (own_cells o120) (by omega) (by omega)).mono ?_
  rintro e w169 ⟨rfl, b168⟩
  have zw169 := b168.size
  have B170 := B161.trans (b168.mono B161.size)
  clear B161
  replace o27 := own_below o27 b168
  replace o120 := own_below o120 b168
  replace H9 := Lib.hid ((b168.block _ (Array.getElem?_eq_some_iff.1 H9.out).1).trans H9.out)
  replace H43 := Lib.hid ((b168.block _ (Array.getElem?_eq_some_iff.1 H43.out).1).trans H43.out)
  replace H47 := Lib.hid ((b168.block _ (Array.getElem?_eq_some_iff.1 H47.out).1).trans H47.out)
  replace H64 := Lib.hid ((b168.block _ (Array.getElem?_eq_some_iff.1 H64.out).1).trans H64.out)
  replace H159 := Lib.hid ((b168.block _ (Array.getElem?_eq_some_iff.1 H159.out).1).trans H159.out)
  go_wp2
  go_ret
  exact ⟨rfl, B170⟩

set_option linter.unusedVariables false in
set_option maxRecDepth 100000 in
theorem FnExactRecvTick_lifted (os : Os) (started : os.Started) (H : Type) (enc : TypeId × Value → H) :
    ReturnsInHanded {} Try.checked os 8 .any (Rows.fnExactRecvTickSpec.pre6 enc Try.prog Try.f8 Rows.fnExactRecvTickRow.domain false) (Rows.fnExactRecvTickSpec.post enc Try.prog Try.f8 false true false false) := by
  refine returnsInHanded_of_change (C := Try.checked) own_knob started (by kernel_rfl) Try.func8
    (ChangeSpec.witness6 (enc := enc) (C := Try.checked) false ⟨#[], #[.agg #[.int .i64 0, .int .i64 0, .slice none 0 0, .bool false, .int .i64 0]], []⟩ 8 (by kernel_rfl) (by kernel_rfl) (by kernel_rfl) (by kernel_rfl)) ?_
  intro W base args ds gs before hval0 hW hcnd _
  have hval : ∀ (j : Nat) t v, Try.f8.params[j]? = some t → args[j]? = some v → Value.okWide Try.prog W .any base t v := hval0
  have hW' := hW
  obtain ⟨p, q, hA0, hV, rfl, hfz, hnd⟩ := hW
  have hA : DataW.TrodAll enc Try.prog W 0 (fun _ => true) true Try.f8.params.toList args.toList ds p := hA0
  rw [Try.params8] at hA hval
  obtain ⟨v0, vs0, d0, ds0, p0, q0, hargs, rfl, rfl, h0, r0⟩ := trodAll_cons hA
  obtain ⟨rfl, rfl, rfl⟩ := trodAll_nil r0
  obtain rfl : args = #[v0] := by cases args; simp_all
  obtain ⟨rfl, rfl⟩ := trodVars_none hV
  have k0 := h0
  have lt0 : ∀ x ∈ p0, x.block < W.heap.size := by obtain ⟨m, hm⟩ := k0; exact DataW.trod_lt m _ _ _ hm
  obtain ⟨rm0, tr0, ls0, ag0, a0, cap0, z0, rfl, lc0, lm0, rz0⟩ := rd_receiver (hval 0 41 v0 rfl rfl) h0
  clear hA0 hval0
  refine (FnExactRecvTick_walk rm0 tr0 ls0 ag0 a0 z0 cap0 W rz0 lc0 lm0).mono fun e W' ⟨he, bel⟩ => ?_
  subst he
  exact ⟨_, rfl, _, _, _, [], _, [], hW', trodAll_mk1 (shut_bool Try.underlying4 _), (trodAll_cons_mk (Below.trod laid_out (by kernel_rfl) (of_decide_eq_true (by kernel_rfl)) k0 bel lt0) trodAll_mk0), rfl, bel.frame _, fun h => by cases h⟩

theorem FnExactRecvTick_holds : Rows.FnExactRecvTickSaid :=
  OpenClaim.holds_of_wide 8 Try.f8 rfl rfl rfl rfl rfl rfl rfl ⟨rfl, rfl, rfl, rfl, rfl⟩ rfl rfl rfl rfl rfl (by kernel_rfl) Try.func8 (by kernel_rfl)
    (of_decide_eq_true (by kernel_rfl)) (by unfold Func.isWrapper; first | (rw [if_pos (by decide +kernel)]; kernel_rfl) | (rw [if_neg (by decide +kernel)]; exact ⟨rfl, rfl⟩))
    (fun os started H enc _ => FnExactRecvTick_lifted os started H enc)
end Go.Proofs.Ytmmdbbnmifpciaa
