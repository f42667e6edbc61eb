/- The program's FifoFill returns what the reference's returns, for all arguments. No conditions beyond the statement's own. -/
import Derived.Test.YtfjdmdjoebjciaaFifo6
import Derived.Test.YtfjdmdjoebjciaaSaidB
namespace Go.Proofs.Ytfjdmdjoebjciaa
open Go.ChangeShapes Go.WideShapes Go.ChangeAt Go.RowKit

set_option maxHeartbeats 4000000 in
set_option maxRecDepth 100000 in
theorem FnExactFifoFill_walk (r0 : Int) (a0 : Option Addr) (z0 : List Int) (cap0 : Nat) (a1 : Option Addr) (z1 : List Int) (cap1 : Nat) (w : World) (rz0 : Ints w a0 z0) (_lc0 : z0.length ≤ cap0) (lm0 : cap0 ≤ maxLen) (rz1 : Ints w a1 z1) (_lc1 : z1.length ≤ cap1) (_lm1 : cap1 ≤ maxLen) :
    Calls Try.prog 9 #[.agg #[.int .i64 r0, .slice a0 z0.length cap0], .slice a1 z1.length cap1] w fun e w' => e = .returned (.bool true) ∧ Below w.heap.size w w' := by
  unfold maxLen at lm0
  by_cases hn1 : (z1.length : Int) ≤ 1048576
  case neg =>
    have hn1' : (1048576 : Int) < (z1.length : Int) := by omega
    go_enter Try.func9, Try.ntmps9
    go_wp2
    go_ret
    refine ⟨rfl, ?_⟩
    repeat' (first | exact Below.refl _ _ | exact Nat.le_refl _ | assumption | refine Below.drew ?_ | refine below_drewN ?_ _ | (refine Below.alloc ?_ (by first | exact Nat.le_refl _ | omega | (simp; done) | (simp; omega)) _) | (refine Below.setCell ?_ (by first | exact Nat.le_refl _ | omega | (simp; done) | (simp; omega)) _))
  by_cases hn0 : (z0.length : Int) ≤ 1048576
  case neg =>
    have hn0' : (1048576 : Int) < (z0.length : Int) := by omega
    go_enter Try.func9, Try.ntmps9
    go_wp2_with fail
    refine name_calls fun W1 hW1 => ?_
    have B2 : Below w.heap.size w W1 := by
      rw [hW1]
      repeat' (first | exact Below.refl _ _ | exact Nat.le_refl _ | assumption | refine Below.drew ?_ | refine below_drewN ?_ _ | (refine Below.alloc ?_ (by first | exact Nat.le_refl _ | omega | (simp; done) | (simp; omega)) _) | (refine Below.setCell ?_ (by first | exact Nat.le_refl _ | omega | (simp; done) | (simp; omega)) _))
    have H3 := Lib.hid (show W1.heap[w.heap.size]? = some (.cells #[.int .i64 r0, .slice a0 z0.length cap0] 38 (0, 0)) by rw [hW1]; exact heap_new_at _ _ _ rfl)
    have zW1 : W1.heap.size = w.heap.size + 1 := by rw [hW1]; simp
    clear hW1
    refine (szFifo_no r0 a0 _ cap0 1048576 W1 hn0' (by omega) (by omega)).mono ?_
    rintro e w5 ⟨rfl, b4⟩
    have zw5 := b4.size
    have B6 := B2.trans (b4.mono B2.size)
    clear B2
    replace H3 := Lib.hid ((b4.block _ (Array.getElem?_eq_some_iff.1 H3.out).1).trans H3.out)
    go_wp2
    go_ret
    exact ⟨rfl, B6⟩
  go_enter Try.func9, Try.ntmps9
  go_wp2_with fail
  refine name_calls fun W7 hW7 => ?_
  have B8 : Below w.heap.size w W7 := by
    rw [hW7]
    repeat' (first | exact Below.refl _ _ | exact Nat.le_refl _ | assumption | refine Below.drew ?_ | refine below_drewN ?_ _ | (refine Below.alloc ?_ (by first | exact Nat.le_refl _ | omega | (simp; done) | (simp; omega)) _) | (refine Below.setCell ?_ (by first | exact Nat.le_refl _ | omega | (simp; done) | (simp; omega)) _))
  have H9 := Lib.hid (show W7.heap[w.heap.size]? = some (.cells #[.int .i64 r0, .slice a0 z0.length cap0] 38 (0, 0)) by rw [hW7]; exact heap_new_at _ _ _ rfl)
  have zW7 : W7.heap.size = w.heap.size + 1 := by rw [hW7]; simp
  clear hW7
  refine (szFifo_yes r0 a0 _ cap0 1048576 W7 hn0 (by omega)).mono ?_
  rintro e w11 ⟨rfl, b10⟩
  have zw11 := b10.size
  have B12 := B8.trans (b10.mono B8.size)
  clear B8
  replace H9 := Lib.hid ((b10.block _ (Array.getElem?_eq_some_iff.1 H9.out).1).trans H9.out)
  have lr := fillR_len r0 z0 z1
  have lr1 := lr.1
  have lr2 := lr.2
  clear lr
  obtain ⟨cc13, cc14⟩ := cells2 H9.out
  have ll15 := (Array.getElem?_eq_some_iff.1 H9.out).1
  go_wp2_with fail
  clear cc13 cc14 ll15
  refine (toFifo_any r0 a0 z0 cap0 w11 (rz0.below B12) (by omega)).mono ?_
  rintro e w20 ⟨a16, c17, rfl, o18, b19⟩
  have zw20 := b19.size
  have B21 := B12.trans (b19.mono B12.size)
  clear B12
  replace H9 := Lib.hid ((b19.block _ (Array.getElem?_eq_some_iff.1 H9.out).1).trans H9.out)
  have io18 := own_in o18
  go_wp2_with fail
  refine (toIntS_any a1 z1 cap1 w20 (rz1.below B21) (by omega)).mono ?_
  rintro e w26 ⟨a22, c23, rfl, o24, b25⟩
  have zw26 := b25.size
  have B27 := B21.trans (b25.mono B21.size)
  clear B21
  replace o18 := own_below o18 b25
  replace H9 := Lib.hid ((b25.block _ (Array.getElem?_eq_some_iff.1 H9.out).1).trans H9.out)
  have io24 := own_in o24
  go_wp2_with fail
  refine (specFifoFill_x r0 a16 z0 c17 _ a22 z1 c23 _ w26 o18 (by omega) o24 (by omega)).mono ?_
  rintro e w36 ⟨a28, c29, a31, c32, rfl, o30, o33, ap34, b35⟩
  have zw36 := b35.size
  have B37 := B27.trans (b35.mono B27.size)
  clear B27
  replace o18 := own_below o18 b35
  replace o24 := own_below o24 b35
  replace H9 := Lib.hid ((b35.block _ (Array.getElem?_eq_some_iff.1 H9.out).1).trans H9.out)
  have io30 := own_in o30
  have io33 := own_in o33
  clear o18
  clear o24
  obtain ⟨cc38, cc39⟩ := cells2 H9.out
  have ll40 := (Array.getElem?_eq_some_iff.1 H9.out).1
  go_wp2_with fail
  clear cc38 cc39 ll40
  refine name_calls fun W46 hW46 => ?_
  have zW46 : W46.heap.size = w36.heap.size + 1 := by rw [hW46]; simp
  have H470 := heap_new_at w36 (.cells #[.int .i64 ((fillR r0 z0 z1).r), .slice a28 ((fillR r0 z0 z1).b).length c29] 25 (0, 0)) _ rfl
  rw [← hW46] at H470
  have H47 := Lib.hid H470
  clear H470
  have B48 := B37.alloc B37.size (.cells #[.int .i64 ((fillR r0 z0 z1).r), .slice a28 ((fillR r0 z0 z1).b).length c29] 25 (0, 0))
  rw [← hW46] at B48
  clear B37
  replace o30 := World.ownsRow.alloc o30 (.cells #[.int .i64 ((fillR r0 z0 z1).r), .slice a28 ((fillR r0 z0 z1).b).length c29] 25 (0, 0))
  rw [← hW46] at o30
  replace o33 := World.ownsRow.alloc o33 (.cells #[.int .i64 ((fillR r0 z0 z1).r), .slice a28 ((fillR r0 z0 z1).b).length c29] 25 (0, 0))
  rw [← hW46] at o33
  have H90 := (Below.heap_alloc w36 (.cells #[.int .i64 ((fillR r0 z0 z1).r), .slice a28 ((fillR r0 z0 z1).b).length c29] 25 (0, 0)) _ (Array.getElem?_eq_some_iff.1 H9.out).1).trans H9.out
  rw [← hW46] at H90
  clear H9
  have H9 := Lib.hid H90
  clear H90
  clear hW46
  refine (toFifo_any r0 a0 z0 cap0 W46 (rz0.below B48) (by omega)).mono ?_
  rintro e w45 ⟨a41, c42, rfl, o43, b44⟩
  have zw45 := b44.size
  have B49 := B48.trans (b44.mono B48.size)
  clear B48
  replace o30 := own_below o30 b44
  replace o33 := own_below o33 b44
  replace H9 := Lib.hid ((b44.block _ (Array.getElem?_eq_some_iff.1 H9.out).1).trans H9.out)
  replace H47 := Lib.hid ((b44.block _ (Array.getElem?_eq_some_iff.1 H47.out).1).trans H47.out)
  have io43 := own_in o43
  go_wp2_with fail
  refine name_calls fun W55 hW55 => ?_
  have zW55 : W55.heap.size = w45.heap.size + 1 := by rw [hW55]; simp
  have H560 := heap_new_at w45 (.cells #[.int .i64 r0, .slice a41 z0.length c42] 25 (0, 0)) _ rfl
  rw [← hW55] at H560
  have H56 := Lib.hid H560
  clear H560
  have B57 := B49.alloc B49.size (.cells #[.int .i64 r0, .slice a41 z0.length c42] 25 (0, 0))
  rw [← hW55] at B57
  clear B49
  replace o30 := World.ownsRow.alloc o30 (.cells #[.int .i64 r0, .slice a41 z0.length c42] 25 (0, 0))
  rw [← hW55] at o30
  replace o33 := World.ownsRow.alloc o33 (.cells #[.int .i64 r0, .slice a41 z0.length c42] 25 (0, 0))
  rw [← hW55] at o33
  replace o43 := World.ownsRow.alloc o43 (.cells #[.int .i64 r0, .slice a41 z0.length c42] 25 (0, 0))
  rw [← hW55] at o43
  have H90 := (Below.heap_alloc w45 (.cells #[.int .i64 r0, .slice a41 z0.length c42] 25 (0, 0)) _ (Array.getElem?_eq_some_iff.1 H9.out).1).trans H9.out
  rw [← hW55] at H90
  clear H9
  have H9 := Lib.hid H90
  clear H90
  have H470 := (Below.heap_alloc w45 (.cells #[.int .i64 r0, .slice a41 z0.length c42] 25 (0, 0)) _ (Array.getElem?_eq_some_iff.1 H47.out).1).trans H47.out
  rw [← hW55] at H470
  clear H47
  have H47 := Lib.hid H470
  clear H470
  clear hW55
  refine (toIntS_any a1 z1 cap1 W55 (rz1.below B57) (by omega)).mono ?_
  rintro e w54 ⟨a50, c51, rfl, o52, b53⟩
  have zw54 := b53.size
  have B58 := B57.trans (b53.mono B57.size)
  clear B57
  replace o30 := own_below o30 b53
  replace o33 := own_below o33 b53
  replace o43 := own_below o43 b53
  replace H9 := Lib.hid ((b53.block _ (Array.getElem?_eq_some_iff.1 H9.out).1).trans H9.out)
  replace H47 := Lib.hid ((b53.block _ (Array.getElem?_eq_some_iff.1 H47.out).1).trans H47.out)
  replace H56 := Lib.hid ((b53.block _ (Array.getElem?_eq_some_iff.1 H56.out).1).trans H56.out)
  have io52 := own_in o52
  obtain ⟨cc59, cc60⟩ := cells2 H56.out
  have ll61 := (Array.getElem?_eq_some_iff.1 H56.out).1
  go_wp2_with fail
  clear cc59 cc60 ll61
  refine (implFifoFill_x r0 a41 z0 c42 _ a50 z1 c51 _ w54 o43 (by omega) o52 (by omega)).mono ?_
  rintro e w70 ⟨a62, c63, a65, c66, rfl, o64, o67, ap68, b69⟩
  have zw70 := b69.size
  have B71 := B58.trans (b69.mono B58.size)
  clear B58
  replace o30 := own_below o30 b69
  replace o33 := own_below o33 b69
  replace o43 := own_below o43 b69
  replace o52 := own_below o52 b69
  replace H9 := Lib.hid ((b69.block _ (Array.getElem?_eq_some_iff.1 H9.out).1).trans H9.out)
  replace H47 := Lib.hid ((b69.block _ (Array.getElem?_eq_some_iff.1 H47.out).1).trans H47.out)
  replace H56 := Lib.hid ((b69.block _ (Array.getElem?_eq_some_iff.1 H56.out).1).trans H56.out)
  have io64 := own_in o64
  have io67 := own_in o67
  obtain ⟨cc72, cc73⟩ := cells2 H47.out
  have ll74 := (Array.getElem?_eq_some_iff.1 H47.out).1
  go_wp2_with fail
  clear cc72 cc73 ll74
  refine name_calls fun W77 hW77 => ?_
  have zW77 : W77.heap.size = w70.heap.size + 1 := by rw [hW77]; simp
  have H780 := heap_new_at w70 (.cells #[.int .i64 ((fillR r0 z0 z1).r), .slice a62 ((fillR r0 z0 z1).b).length c63] 25 (0, 0)) _ rfl
  rw [← hW77] at H780
  have H78 := Lib.hid H780
  clear H780
  have B79 := B71.alloc B71.size (.cells #[.int .i64 ((fillR r0 z0 z1).r), .slice a62 ((fillR r0 z0 z1).b).length c63] 25 (0, 0))
  rw [← hW77] at B79
  clear B71
  replace o30 := World.ownsRow.alloc o30 (.cells #[.int .i64 ((fillR r0 z0 z1).r), .slice a62 ((fillR r0 z0 z1).b).length c63] 25 (0, 0))
  rw [← hW77] at o30
  replace o33 := World.ownsRow.alloc o33 (.cells #[.int .i64 ((fillR r0 z0 z1).r), .slice a62 ((fillR r0 z0 z1).b).length c63] 25 (0, 0))
  rw [← hW77] at o33
  replace o43 := World.ownsRow.alloc o43 (.cells #[.int .i64 ((fillR r0 z0 z1).r), .slice a62 ((fillR r0 z0 z1).b).length c63] 25 (0, 0))
  rw [← hW77] at o43
  replace o52 := World.ownsRow.alloc o52 (.cells #[.int .i64 ((fillR r0 z0 z1).r), .slice a62 ((fillR r0 z0 z1).b).length c63] 25 (0, 0))
  rw [← hW77] at o52
  replace o64 := World.ownsRow.alloc o64 (.cells #[.int .i64 ((fillR r0 z0 z1).r), .slice a62 ((fillR r0 z0 z1).b).length c63] 25 (0, 0))
  rw [← hW77] at o64
  replace o67 := World.ownsRow.alloc o67 (.cells #[.int .i64 ((fillR r0 z0 z1).r), .slice a62 ((fillR r0 z0 z1).b).length c63] 25 (0, 0))
  rw [← hW77] at o67
  have H90 := (Below.heap_alloc w70 (.cells #[.int .i64 ((fillR r0 z0 z1).r), .slice a62 ((fillR r0 z0 z1).b).length c63] 25 (0, 0)) _ (Array.getElem?_eq_some_iff.1 H9.out).1).trans H9.out
  rw [← hW77] at H90
  clear H9
  have H9 := Lib.hid H90
  clear H90
  have H470 := (Below.heap_alloc w70 (.cells #[.int .i64 ((fillR r0 z0 z1).r), .slice a62 ((fillR r0 z0 z1).b).length c63] 25 (0, 0)) _ (Array.getElem?_eq_some_iff.1 H47.out).1).trans H47.out
  rw [← hW77] at H470
  clear H47
  have H47 := Lib.hid H470
  clear H470
  have H560 := (Below.heap_alloc w70 (.cells #[.int .i64 ((fillR r0 z0 z1).r), .slice a62 ((fillR r0 z0 z1).b).length c63] 25 (0, 0)) _ (Array.getElem?_eq_some_iff.1 H56.out).1).trans H56.out
  rw [← hW77] at H560
  clear H56
  have H56 := Lib.hid H560
  clear H560
  clear hW77
  refine (eqFifo_any ((fillR r0 z0 z1).r) ((fillR r0 z0 z1).r) a62 a28 ((fillR r0 z0 z1).b) ((fillR r0 z0 z1).b) c63 c29 W77 (own_cells o64) (own_cells o30) (by omega) (by omega)).mono ?_
  rintro e w76 ⟨rfl, b75⟩
  have zw76 := b75.size
  have B80 := B79.trans (b75.mono B79.size)
  clear B79
  replace o30 := own_below o30 b75
  replace o33 := own_below o33 b75
  replace o43 := own_below o43 b75
  replace o52 := own_below o52 b75
  replace o64 := own_below o64 b75
  replace o67 := own_below o67 b75
  replace H9 := Lib.hid ((b75.block _ (Array.getElem?_eq_some_iff.1 H9.out).1).trans H9.out)
  replace H47 := Lib.hid ((b75.block _ (Array.getElem?_eq_some_iff.1 H47.out).1).trans H47.out)
  replace H56 := Lib.hid ((b75.block _ (Array.getElem?_eq_some_iff.1 H56.out).1).trans H56.out)
  replace H78 := Lib.hid ((b75.block _ (Array.getElem?_eq_some_iff.1 H78.out).1).trans H78.out)
  go_wp2_with fail
  refine (eqIntS_below a65 a31 ((fillR r0 z0 z1).l) ((fillR r0 z0 z1).l) c66 c32 w76 (own_cells o67) (own_cells o33) (by omega) (by omega)).mono ?_
  rintro e w82 ⟨rfl, b81⟩
  have zw82 := b81.size
  have B83 := B80.trans (b81.mono B80.size)
  clear B80
  replace o30 := own_below o30 b81
  replace o33 := own_below o33 b81
  replace o43 := own_below o43 b81
  replace o52 := own_below o52 b81
  replace o64 := own_below o64 b81
  replace o67 := own_below o67 b81
  replace H9 := Lib.hid ((b81.block _ (Array.getElem?_eq_some_iff.1 H9.out).1).trans H9.out)
  replace H47 := Lib.hid ((b81.block _ (Array.getElem?_eq_some_iff.1 H47.out).1).trans H47.out)
  replace H56 := Lib.hid ((b81.block _ (Array.getElem?_eq_some_iff.1 H56.out).1).trans H56.out)
  replace H78 := Lib.hid ((b81.block _ (Array.getElem?_eq_some_iff.1 H78.out).1).trans H78.out)
  obtain ⟨cc84, cc85⟩ := cells2 H56.out
  have ll86 := (Array.getElem?_eq_some_iff.1 H56.out).1
  obtain ⟨cc87, cc88⟩ := cells2 H9.out
  have ll89 := (Array.getElem?_eq_some_iff.1 H9.out).1
  go_wp2_with fail
  go_region_held3 (fun v => v.cell? ⟨w45.heap.size, 0, none⟩ = some (.int .i64 r0) ∧ v.cell? ⟨w45.heap.size, 1, none⟩ = some (.slice a41 z0.length c42) ∧ v.cell? ⟨w.heap.size, 0, none⟩ = some (.int .i64 r0) ∧ v.cell? ⟨w.heap.size, 1, none⟩ = some (.slice a0 z0.length cap0))
    (go_keep)
    (first
      | (go_at_call 24
         refine (toFifo_any r0 a0 z0 cap0 _ (Cells.drew (rz0.below B83)) (by omega)).mono ?_
         rintro e w90 ⟨a92, c93, rfl, o94, b950⟩
         have b95 : Below w82.heap.size w82 w90 := (Below.refl _ w82).drew.trans b950
         have cc84A := Keeps.of_below b95 _ _ _ cc84
         have cc85A := Keeps.of_below b95 _ _ _ cc85
         have cc87A := Keeps.of_below b95 _ _ _ cc87
         have cc88A := Keeps.of_below b95 _ _ _ cc88
         skip)
      | (go_at_call 25
         refine (eqFifo_any r0 r0 a41 a92 z0 z0 c42 c93 _ (own_cells (own_below o43 b95)) (own_cells o94) (by omega) (by omega)).mono ?_
         rintro e w91 ⟨rfl, b96⟩
         have cc84B := Keeps.of_below b96 _ _ _ cc84A
         have cc85B := Keeps.of_below b96 _ _ _ cc85A
         have cc87B := Keeps.of_below b96 _ _ _ cc87A
         have cc88B := Keeps.of_below b96 _ _ _ cc88A
         skip))
  have b97 := below_join b95 b96
  clear ll86 ll89 cc84 cc84A cc84B cc85 cc85A cc85B cc87 cc87A cc87B cc88 cc88A cc88B o94
  have zw91 := b97.size
  have B98 := B83.trans (b97.mono B83.size)
  clear B83
  replace o30 := own_below o30 b97
  replace o33 := own_below o33 b97
  replace o43 := own_below o43 b97
  replace o52 := own_below o52 b97
  replace o64 := own_below o64 b97
  replace o67 := own_below o67 b97
  replace H9 := Lib.hid ((b97.block _ (Array.getElem?_eq_some_iff.1 H9.out).1).trans H9.out)
  replace H47 := Lib.hid ((b97.block _ (Array.getElem?_eq_some_iff.1 H47.out).1).trans H47.out)
  replace H56 := Lib.hid ((b97.block _ (Array.getElem?_eq_some_iff.1 H56.out).1).trans H56.out)
  replace H78 := Lib.hid ((b97.block _ (Array.getElem?_eq_some_iff.1 H78.out).1).trans H78.out)
  clear b95 b96 b950
  go_wp2_with fail
  refine (toIntS_any a1 z1 cap1 w91 (rz1.below B98) (by omega)).mono ?_
  rintro e w103 ⟨a99, c100, rfl, o101, b102⟩
  have zw103 := b102.size
  have B104 := B98.trans (b102.mono B98.size)
  clear B98
  replace o30 := own_below o30 b102
  replace o33 := own_below o33 b102
  replace o43 := own_below o43 b102
  replace o52 := own_below o52 b102
  replace o64 := own_below o64 b102
  replace o67 := own_below o67 b102
  replace H9 := Lib.hid ((b102.block _ (Array.getElem?_eq_some_iff.1 H9.out).1).trans H9.out)
  replace H47 := Lib.hid ((b102.block _ (Array.getElem?_eq_some_iff.1 H47.out).1).trans H47.out)
  replace H56 := Lib.hid ((b102.block _ (Array.getElem?_eq_some_iff.1 H56.out).1).trans H56.out)
  replace H78 := Lib.hid ((b102.block _ (Array.getElem?_eq_some_iff.1 H78.out).1).trans H78.out)
  have io101 := own_in o101
  go_wp2_with fail
  refine (eqIntS_below a50 a99 z1 z1 c51 c100 w103 (own_cells o52) (own_cells o101) (by omega) (by omega)).mono ?_
  rintro e w106 ⟨rfl, b105⟩
  have zw106 := b105.size
  have B107 := B104.trans (b105.mono B104.size)
  clear B104
  replace o30 := own_below o30 b105
  replace o33 := own_below o33 b105
  replace o43 := own_below o43 b105
  replace o52 := own_below o52 b105
  replace o64 := own_below o64 b105
  replace o67 := own_below o67 b105
  replace o101 := own_below o101 b105
  replace H9 := Lib.hid ((b105.block _ (Array.getElem?_eq_some_iff.1 H9.out).1).trans H9.out)
  replace H47 := Lib.hid ((b105.block _ (Array.getElem?_eq_some_iff.1 H47.out).1).trans H47.out)
  replace H56 := Lib.hid ((b105.block _ (Array.getElem?_eq_some_iff.1 H56.out).1).trans H56.out)
  replace H78 := Lib.hid ((b105.block _ (Array.getElem?_eq_some_iff.1 H78.out).1).trans H78.out)
  clear o101
  obtain ⟨cc108, cc109⟩ := cells2 H56.out
  have ll110 := (Array.getElem?_eq_some_iff.1 H56.out).1
  go_wp2_with fail
  clear cc108 cc109 ll110
  refine (markFifo_any _ r0 a41 _ c42 1 _ w106 o43 (by omega) (by omega)).mono ?_
  rintro e w111 ⟨rfl, o112, g113⟩
  have zw111 := g113.size
  have B114 := below_mark B107 io43 (by omega) B107.size g113
  clear B107
  replace o30 := own_apart o30 io30 io43 (by omega) g113
  replace o33 := own_apart o33 io33 io43 (by omega) g113
  replace o52 := own_apart o52 io52 io43 (by omega) g113
  replace o64 := own_apart o64 io64 io43 (by omega) g113
  replace o67 := own_apart o67 io67 io43 (by omega) g113
  replace H9 := Lib.hid (box_mark H9.out io43 (by omega) g113)
  replace H47 := Lib.hid (box_mark H47.out io43 (by omega) g113)
  replace H56 := Lib.hid (box_mark H56.out io43 (by omega) g113)
  replace H78 := Lib.hid (box_mark H78.out io43 (by omega) g113)
  clear o43 g113
  go_wp2_with fail
  refine (markIntS_any _ a50 _ c51 (1 + (z0.length : Int)) _ w111 o52 (by omega) (by omega)).mono ?_
  rintro e w115 ⟨rfl, o116, g117⟩
  have zw115 := g117.size
  have B118 := below_mark B114 io52 (by omega) B114.size g117
  clear B114
  replace o30 := own_apart o30 io30 io52 (by omega) g117
  replace o33 := own_apart o33 io33 io52 (by omega) g117
  replace o112 := own_apart o112 io43 io52 (by omega) g117
  replace o64 := own_apart o64 io64 io52 (by omega) g117
  replace o67 := own_apart o67 io67 io52 (by omega) g117
  replace H9 := Lib.hid (box_mark H9.out io52 (by omega) g117)
  replace H47 := Lib.hid (box_mark H47.out io52 (by omega) g117)
  replace H56 := Lib.hid (box_mark H56.out io52 (by omega) g117)
  replace H78 := Lib.hid (box_mark H78.out io52 (by omega) g117)
  clear o52 g117
  clear o112
  clear o116
  obtain ⟨cc119, cc120⟩ := cells2 H78.out
  have ll121 := (Array.getElem?_eq_some_iff.1 H78.out).1
  obtain ⟨cc122, cc123⟩ := cells2 H47.out
  have ll124 := (Array.getElem?_eq_some_iff.1 H47.out).1
  go_wp2_with fail
  clear cc119 cc120 ll121 cc122 cc123 ll124
  refine (eqFifo_any ((fillR r0 z0 z1).r) ((fillR r0 z0 z1).r) a62 a28 ((fillR r0 z0 z1).b) ((fillR r0 z0 z1).b) c63 c29 w115 (own_cells o64) (own_cells o30) (by omega) (by omega)).mono ?_
  rintro e w126 ⟨rfl, b125⟩
  have zw126 := b125.size
  have B127 := B118.trans (b125.mono B118.size)
  clear B118
  replace o30 := own_below o30 b125
  replace o33 := own_below o33 b125
  replace o64 := own_below o64 b125
  replace o67 := own_below o67 b125
  replace H9 := Lib.hid ((b125.block _ (Array.getElem?_eq_some_iff.1 H9.out).1).trans H9.out)
  replace H47 := Lib.hid ((b125.block _ (Array.getElem?_eq_some_iff.1 H47.out).1).trans H47.out)
  replace H56 := Lib.hid ((b125.block _ (Array.getElem?_eq_some_iff.1 H56.out).1).trans H56.out)
  replace H78 := Lib.hid ((b125.block _ (Array.getElem?_eq_some_iff.1 H78.out).1).trans H78.out)
  go_wp2_with fail
  refine (eqIntS_below a65 a31 ((fillR r0 z0 z1).l) ((fillR r0 z0 z1).l) c66 c32 w126 (own_cells o67) (own_cells o33) (by omega) (by omega)).mono ?_
  rintro e w129 ⟨rfl, b128⟩
  have zw129 := b128.size
  have B130 := B127.trans (b128.mono B127.size)
  clear B127
  replace o30 := own_below o30 b128
  replace o33 := own_below o33 b128
  replace o64 := own_below o64 b128
  replace o67 := own_below o67 b128
  replace H9 := Lib.hid ((b128.block _ (Array.getElem?_eq_some_iff.1 H9.out).1).trans H9.out)
  replace H47 := Lib.hid ((b128.block _ (Array.getElem?_eq_some_iff.1 H47.out).1).trans H47.out)
  replace H56 := Lib.hid ((b128.block _ (Array.getElem?_eq_some_iff.1 H56.out).1).trans H56.out)
  replace H78 := Lib.hid ((b128.block _ (Array.getElem?_eq_some_iff.1 H78.out).1).trans H78.out)
  obtain ⟨cc131, cc132⟩ := cells2 H78.out
  have ll133 := (Array.getElem?_eq_some_iff.1 H78.out).1
  go_wp2_with fail
  clear cc131 cc132 ll133
  refine (markFifo_any _ ((fillR r0 z0 z1).r) a62 _ c63 1 _ w129 o64 (by omega) (by omega)).mono ?_
  rintro e w134 ⟨rfl, o135, g136⟩
  have zw134 := g136.size
  have B137 := below_mark B130 io64 (by omega) B130.size g136
  clear B130
  replace o30 := own_apart o30 io30 io64 (by omega) g136
  replace o33 := own_apart o33 io33 io64 (by omega) g136
  replace o67 := own_sep o67 ap68.symm g136
  replace H9 := Lib.hid (box_mark H9.out io64 (by omega) g136)
  replace H47 := Lib.hid (box_mark H47.out io64 (by omega) g136)
  replace H56 := Lib.hid (box_mark H56.out io64 (by omega) g136)
  replace H78 := Lib.hid (box_mark H78.out io64 (by omega) g136)
  clear o64 g136
  go_wp2_with fail
  refine (markIntS_any _ a65 _ c66 (1 + (((fillR r0 z0 z1).b).length : Int)) _ w134 o67 (by omega) (by omega)).mono ?_
  rintro e w138 ⟨rfl, o139, g140⟩
  have zw138 := g140.size
  have B141 := below_mark B137 io67 (by omega) B137.size g140
  clear B137
  replace o30 := own_apart o30 io30 io67 (by omega) g140
  replace o33 := own_apart o33 io33 io67 (by omega) g140
  replace o135 := own_sep o135 ap68 g140
  replace H9 := Lib.hid (box_mark H9.out io67 (by omega) g140)
  replace H47 := Lib.hid (box_mark H47.out io67 (by omega) g140)
  replace H56 := Lib.hid (box_mark H56.out io67 (by omega) g140)
  replace H78 := Lib.hid (box_mark H78.out io67 (by omega) g140)
  clear o67 g140
  obtain ⟨cc142, cc143⟩ := cells2 H78.out
  have ll144 := (Array.getElem?_eq_some_iff.1 H78.out).1
  go_wp2_with fail
  clear cc142 cc143 ll144
  refine (heldFifo_any ((fillR r0 z0 z1).r) a62 _ c63 1 w138 (own_cells o135) (by omega) (by omega)).mono ?_
  rintro e w146 ⟨rfl, b145⟩
  have zw146 := b145.size
  have B147 := B141.trans (b145.mono B141.size)
  clear B141
  replace o30 := own_below o30 b145
  replace o33 := own_below o33 b145
  replace o135 := own_below o135 b145
  replace o139 := own_below o139 b145
  replace H9 := Lib.hid ((b145.block _ (Array.getElem?_eq_some_iff.1 H9.out).1).trans H9.out)
  replace H47 := Lib.hid ((b145.block _ (Array.getElem?_eq_some_iff.1 H47.out).1).trans H47.out)
  replace H56 := Lib.hid ((b145.block _ (Array.getElem?_eq_some_iff.1 H56.out).1).trans H56.out)
  replace H78 := Lib.hid ((b145.block _ (Array.getElem?_eq_some_iff.1 H78.out).1).trans H78.out)
  go_wp2_with fail
  refine (heldIntS_below a65 _ c66 (1 + (((fillR r0 z0 z1).b).length : Int)) w146 (own_cells o139) (by omega) (by omega)).mono ?_
  rintro e w149 ⟨rfl, b148⟩
  have zw149 := b148.size
  have B150 := B147.trans (b148.mono B147.size)
  clear B147
  replace o30 := own_below o30 b148
  replace o33 := own_below o33 b148
  replace o135 := own_below o135 b148
  replace o139 := own_below o139 b148
  replace H9 := Lib.hid ((b148.block _ (Array.getElem?_eq_some_iff.1 H9.out).1).trans H9.out)
  replace H47 := Lib.hid ((b148.block _ (Array.getElem?_eq_some_iff.1 H47.out).1).trans H47.out)
  replace H56 := Lib.hid ((b148.block _ (Array.getElem?_eq_some_iff.1 H56.out).1).trans H56.out)
  replace H78 := Lib.hid ((b148.block _ (Array.getElem?_eq_some_iff.1 H78.out).1).trans H78.out)
  obtain ⟨cc151, cc152⟩ := cells2 H9.out
  have ll153 := (Array.getElem?_eq_some_iff.1 H9.out).1
  go_wp2_with fail
  clear cc151 cc152 ll153
  refine (toFifo_any r0 a0 z0 cap0 w149 (rz0.below B150) (by omega)).mono ?_
  rintro e w158 ⟨a154, c155, rfl, o156, b157⟩
  have zw158 := b157.size
  have B159 := B150.trans (b157.mono B150.size)
  clear B150
  replace o30 := own_below o30 b157
  replace o33 := own_below o33 b157
  replace o135 := own_below o135 b157
  replace o139 := own_below o139 b157
  replace H9 := Lib.hid ((b157.block _ (Array.getElem?_eq_some_iff.1 H9.out).1).trans H9.out)
  replace H47 := Lib.hid ((b157.block _ (Array.getElem?_eq_some_iff.1 H47.out).1).trans H47.out)
  replace H56 := Lib.hid ((b157.block _ (Array.getElem?_eq_some_iff.1 H56.out).1).trans H56.out)
  replace H78 := Lib.hid ((b157.block _ (Array.getElem?_eq_some_iff.1 H78.out).1).trans H78.out)
  have io156 := own_in o156
  go_wp2_with fail
  refine (toIntS_any a1 z1 cap1 w158 (rz1.below B159) (by omega)).mono ?_
  rintro e w164 ⟨a160, c161, rfl, o162, b163⟩
  have zw164 := b163.size
  have B165 := B159.trans (b163.mono B159.size)
  clear B159
  replace o30 := own_below o30 b163
  replace o33 := own_below o33 b163
  replace o135 := own_below o135 b163
  replace o139 := own_below o139 b163
  replace o156 := own_below o156 b163
  replace H9 := Lib.hid ((b163.block _ (Array.getElem?_eq_some_iff.1 H9.out).1).trans H9.out)
  replace H47 := Lib.hid ((b163.block _ (Array.getElem?_eq_some_iff.1 H47.out).1).trans H47.out)
  replace H56 := Lib.hid ((b163.block _ (Array.getElem?_eq_some_iff.1 H56.out).1).trans H56.out)
  replace H78 := Lib.hid ((b163.block _ (Array.getElem?_eq_some_iff.1 H78.out).1).trans H78.out)
  have io162 := own_in o162
  go_wp2_with fail
  refine (implFifoFill_x r0 a154 z0 c155 _ a160 z1 c161 _ w164 o156 (by omega) o162 (by omega)).mono ?_
  rintro e w174 ⟨a166, c167, a169, c170, rfl, o168, o171, ap172, b173⟩
  have zw174 := b173.size
  have B175 := B165.trans (b173.mono B165.size)
  clear B165
  replace o30 := own_below o30 b173
  replace o33 := own_below o33 b173
  replace o135 := own_below o135 b173
  replace o139 := own_below o139 b173
  replace o156 := own_below o156 b173
  replace o162 := own_below o162 b173
  replace H9 := Lib.hid ((b173.block _ (Array.getElem?_eq_some_iff.1 H9.out).1).trans H9.out)
  replace H47 := Lib.hid ((b173.block _ (Array.getElem?_eq_some_iff.1 H47.out).1).trans H47.out)
  replace H56 := Lib.hid ((b173.block _ (Array.getElem?_eq_some_iff.1 H56.out).1).trans H56.out)
  replace H78 := Lib.hid ((b173.block _ (Array.getElem?_eq_some_iff.1 H78.out).1).trans H78.out)
  have io168 := own_in o168
  have io171 := own_in o171
  clear o156
  clear o162
  obtain ⟨cc176, cc177⟩ := cells2 H47.out
  have ll178 := (Array.getElem?_eq_some_iff.1 H47.out).1
  go_wp2_with fail
  clear cc176 cc177 ll178
  refine name_calls fun W181 hW181 => ?_
  have zW181 : W181.heap.size = w174.heap.size + 1 := by rw [hW181]; simp
  have H1820 := heap_new_at w174 (.cells #[.int .i64 ((fillR r0 z0 z1).r), .slice a166 ((fillR r0 z0 z1).b).length c167] 25 (0, 0)) _ rfl
  rw [← hW181] at H1820
  have H182 := Lib.hid H1820
  clear H1820
  have B183 := B175.alloc B175.size (.cells #[.int .i64 ((fillR r0 z0 z1).r), .slice a166 ((fillR r0 z0 z1).b).length c167] 25 (0, 0))
  rw [← hW181] at B183
  clear B175
  replace o30 := World.ownsRow.alloc o30 (.cells #[.int .i64 ((fillR r0 z0 z1).r), .slice a166 ((fillR r0 z0 z1).b).length c167] 25 (0, 0))
  rw [← hW181] at o30
  replace o33 := World.ownsRow.alloc o33 (.cells #[.int .i64 ((fillR r0 z0 z1).r), .slice a166 ((fillR r0 z0 z1).b).length c167] 25 (0, 0))
  rw [← hW181] at o33
  replace o135 := World.ownsRow.alloc o135 (.cells #[.int .i64 ((fillR r0 z0 z1).r), .slice a166 ((fillR r0 z0 z1).b).length c167] 25 (0, 0))
  rw [← hW181] at o135
  replace o139 := World.ownsRow.alloc o139 (.cells #[.int .i64 ((fillR r0 z0 z1).r), .slice a166 ((fillR r0 z0 z1).b).length c167] 25 (0, 0))
  rw [← hW181] at o139
  replace o168 := World.ownsRow.alloc o168 (.cells #[.int .i64 ((fillR r0 z0 z1).r), .slice a166 ((fillR r0 z0 z1).b).length c167] 25 (0, 0))
  rw [← hW181] at o168
  replace o171 := World.ownsRow.alloc o171 (.cells #[.int .i64 ((fillR r0 z0 z1).r), .slice a166 ((fillR r0 z0 z1).b).length c167] 25 (0, 0))
  rw [← hW181] at o171
  have H90 := (Below.heap_alloc w174 (.cells #[.int .i64 ((fillR r0 z0 z1).r), .slice a166 ((fillR r0 z0 z1).b).length c167] 25 (0, 0)) _ (Array.getElem?_eq_some_iff.1 H9.out).1).trans H9.out
  rw [← hW181] at H90
  clear H9
  have H9 := Lib.hid H90
  clear H90
  have H470 := (Below.heap_alloc w174 (.cells #[.int .i64 ((fillR r0 z0 z1).r), .slice a166 ((fillR r0 z0 z1).b).length c167] 25 (0, 0)) _ (Array.getElem?_eq_some_iff.1 H47.out).1).trans H47.out
  rw [← hW181] at H470
  clear H47
  have H47 := Lib.hid H470
  clear H470
  have H560 := (Below.heap_alloc w174 (.cells #[.int .i64 ((fillR r0 z0 z1).r), .slice a166 ((fillR r0 z0 z1).b).length c167] 25 (0, 0)) _ (Array.getElem?_eq_some_iff.1 H56.out).1).trans H56.out
  rw [← hW181] at H560
  clear H56
  have H56 := Lib.hid H560
  clear H560
  have H780 := (Below.heap_alloc w174 (.cells #[.int .i64 ((fillR r0 z0 z1).r), .slice a166 ((fillR r0 z0 z1).b).length c167] 25 (0, 0)) _ (Array.getElem?_eq_some_iff.1 H78.out).1).trans H78.out
  rw [← hW181] at H780
  clear H78
  have H78 := Lib.hid H780
  clear H780
  clear hW181
  refine (eqFifo_any ((fillR r0 z0 z1).r) ((fillR r0 z0 z1).r) a166 a28 ((fillR r0 z0 z1).b) ((fillR r0 z0 z1).b) c167 c29 W181 (own_cells o168) (own_cells o30) (by omega) (by omega)).mono ?_
  rintro e w180 ⟨rfl, b179⟩
  have zw180 := b179.size
  have B184 := B183.trans (b179.mono B183.size)
  clear B183
  replace o30 := own_below o30 b179
  replace o33 := own_below o33 b179
  replace o135 := own_below o135 b179
  replace o139 := own_below o139 b179
  replace o168 := own_below o168 b179
  replace o171 := own_below o171 b179
  replace H9 := Lib.hid ((b179.block _ (Array.getElem?_eq_some_iff.1 H9.out).1).trans H9.out)
  replace H47 := Lib.hid ((b179.block _ (Array.getElem?_eq_some_iff.1 H47.out).1).trans H47.out)
  replace H56 := Lib.hid ((b179.block _ (Array.getElem?_eq_some_iff.1 H56.out).1).trans H56.out)
  replace H78 := Lib.hid ((b179.block _ (Array.getElem?_eq_some_iff.1 H78.out).1).trans H78.out)
  replace H182 := Lib.hid ((b179.block _ (Array.getElem?_eq_some_iff.1 H182.out).1).trans H182.out)
  go_wp2_with fail
  refine (eqIntS_below a169 a31 ((fillR r0 z0 z1).l) ((fillR r0 z0 z1).l) c170 c32 w180 (own_cells o171) (own_cells o33) (by omega) (by omega)).mono ?_
  rintro e w186 ⟨rfl, b185⟩
  have zw186 := b185.size
  have B187 := B184.trans (b185.mono B184.size)
  clear B184
  replace o30 := own_below o30 b185
  replace o33 := own_below o33 b185
  replace o135 := own_below o135 b185
  replace o139 := own_below o139 b185
  replace o168 := own_below o168 b185
  replace o171 := own_below o171 b185
  replace H9 := Lib.hid ((b185.block _ (Array.getElem?_eq_some_iff.1 H9.out).1).trans H9.out)
  replace H47 := Lib.hid ((b185.block _ (Array.getElem?_eq_some_iff.1 H47.out).1).trans H47.out)
  replace H56 := Lib.hid ((b185.block _ (Array.getElem?_eq_some_iff.1 H56.out).1).trans H56.out)
  replace H78 := Lib.hid ((b185.block _ (Array.getElem?_eq_some_iff.1 H78.out).1).trans H78.out)
  replace H182 := Lib.hid ((b185.block _ (Array.getElem?_eq_some_iff.1 H182.out).1).trans H182.out)
  clear o168
  clear o171
  obtain ⟨cc188, cc189⟩ := cells2 H78.out
  have ll190 := (Array.getElem?_eq_some_iff.1 H78.out).1
  go_wp2_with fail
  clear cc188 cc189 ll190
  refine (heldFifo_any ((fillR r0 z0 z1).r) a62 _ c63 1 w186 (own_cells o135) (by omega) (by omega)).mono ?_
  rintro e w192 ⟨rfl, b191⟩
  have zw192 := b191.size
  have B193 := B187.trans (b191.mono B187.size)
  clear B187
  replace o30 := own_below o30 b191
  replace o33 := own_below o33 b191
  replace o135 := own_below o135 b191
  replace o139 := own_below o139 b191
  replace H9 := Lib.hid ((b191.block _ (Array.getElem?_eq_some_iff.1 H9.out).1).trans H9.out)
  replace H47 := Lib.hid ((b191.block _ (Array.getElem?_eq_some_iff.1 H47.out).1).trans H47.out)
  replace H56 := Lib.hid ((b191.block _ (Array.getElem?_eq_some_iff.1 H56.out).1).trans H56.out)
  replace H78 := Lib.hid ((b191.block _ (Array.getElem?_eq_some_iff.1 H78.out).1).trans H78.out)
  replace H182 := Lib.hid ((b191.block _ (Array.getElem?_eq_some_iff.1 H182.out).1).trans H182.out)
  go_wp2_with fail
  refine (heldIntS_below a65 _ c66 (1 + (((fillR r0 z0 z1).b).length : Int)) w192 (own_cells o139) (by omega) (by omega)).mono ?_
  rintro e w195 ⟨rfl, b194⟩
  have zw195 := b194.size
  have B196 := B193.trans (b194.mono B193.size)
  clear B193
  replace o30 := own_below o30 b194
  replace o33 := own_below o33 b194
  replace o135 := own_below o135 b194
  replace o139 := own_below o139 b194
  replace H9 := Lib.hid ((b194.block _ (Array.getElem?_eq_some_iff.1 H9.out).1).trans H9.out)
  replace H47 := Lib.hid ((b194.block _ (Array.getElem?_eq_some_iff.1 H47.out).1).trans H47.out)
  replace H56 := Lib.hid ((b194.block _ (Array.getElem?_eq_some_iff.1 H56.out).1).trans H56.out)
  replace H78 := Lib.hid ((b194.block _ (Array.getElem?_eq_some_iff.1 H78.out).1).trans H78.out)
  replace H182 := Lib.hid ((b194.block _ (Array.getElem?_eq_some_iff.1 H182.out).1).trans H182.out)
  go_wp2
  go_ret
  exact ⟨rfl, B196⟩

set_option linter.unusedVariables false in
set_option maxRecDepth 100000 in
theorem FnExactFifoFill_lifted (os : Os) (started : os.Started) (H : Type) (enc : TypeId × Value → H) :
    ReturnsInHanded {} Try.checked os 9 .any (Rows.fnExactFifoFillSpec.pre6 enc Try.prog Try.f9 Rows.fnExactFifoFillRow.domain false) (Rows.fnExactFifoFillSpec.post enc Try.prog Try.f9 false true false false) := by
  refine returnsInHanded_of_change (C := Try.checked) own_knob started (by kernel_rfl) Try.func9
    (ChangeSpec.witness6 (enc := enc) (C := Try.checked) false ⟨#[], #[.agg #[.int .i64 0, .slice none 0 0], .slice none 0 0], []⟩ 8 (by kernel_rfl) (by kernel_rfl) (by kernel_rfl) (by kernel_rfl)) ?_
  intro W base args ds gs before hval0 hW hcnd _
  have hval : ∀ (j : Nat) t v, Try.f9.params[j]? = some t → args[j]? = some v → Value.okWide Try.prog W .any base t v := hval0
  have hW' := hW
  obtain ⟨p, q, hA0, hV, rfl, hfz, hnd⟩ := hW
  have hA : DataW.TrodAll enc Try.prog W 0 (fun _ => true) true Try.f9.params.toList args.toList ds p := hA0
  rw [Try.params9] at hA hval
  obtain ⟨v0, vs0, d0, ds0, p0, q0, hargs, rfl, rfl, h0, r0⟩ := trodAll_cons hA
  obtain ⟨v1, vs1, d1, ds1, p1, q1, rfl, rfl, rfl, h1, r1⟩ := trodAll_cons r0
  obtain ⟨rfl, rfl, rfl⟩ := trodAll_nil r1
  obtain rfl : args = #[v0, v1] := by cases args; simp_all
  obtain ⟨rfl, rfl⟩ := trodVars_none hV
  have k0 := h0
  have lt0 : ∀ x ∈ p0, x.block < W.heap.size := by obtain ⟨m, hm⟩ := k0; exact DataW.trod_lt m _ _ _ hm
  obtain ⟨rm0, a0, cap0, z0, rfl, lc0, lm0, rz0⟩ := rd_fifo (hval 0 38 v0 rfl rfl) h0
  have k1 := h1
  have lt1 : ∀ x ∈ p1, x.block < W.heap.size := by obtain ⟨m, hm⟩ := k1; exact DataW.trod_lt m _ _ _ hm
  obtain ⟨a1, len1, cap1, rfl⟩ := okWide_slice Try.underlying23 (hval 1 23 v1 rfl rfl)
  obtain ⟨z1, rfl, lc1, lm1, rz1⟩ : ∃ z : List Int, len1 = z.length ∧ z.length ≤ cap1 ∧ cap1 ≤ maxLen ∧ Ints W a1 z := by
    obtain ⟨fuel, hf⟩ := h1
    obtain ⟨ao, cap, z, e, h1, h2, h3⟩ := rd_ints Try.underlying23 Try.underlying3 (by kernel_rfl) hf
    simp [Value.cells] at e
    obtain ⟨rfl, rfl, rfl⟩ := e
    exact ⟨z, rfl, h1, h2, h3⟩
  have lb1 : z1.length ≤ cap1 := lc1
  clear hA0 hval0
  refine (FnExactFifoFill_walk rm0 a0 z0 cap0 a1 z1 cap1 W rz0 lc0 lm0 rz1 lc1 lm1).mono fun e W' ⟨he, bel⟩ => ?_
  subst he
  exact ⟨_, rfl, _, _, _, [], _, [], hW', trodAll_mk1 (shut_bool Try.underlying4 _), (trodAll_cons_mk (Below.trod laid_out (by kernel_rfl) (of_decide_eq_true (by kernel_rfl)) k0 bel lt0) (trodAll_cons_mk (Below.trod laid_out (by kernel_rfl) (of_decide_eq_true (by kernel_rfl)) k1 bel lt1) trodAll_mk0)), rfl, bel.frame _, fun h => by cases h⟩

theorem FnExactFifoFill_holds : Rows.FnExactFifoFillSaid :=
  OpenClaim.holds_of_wide 9 Try.f9 rfl rfl rfl rfl rfl rfl rfl ⟨rfl, rfl, rfl, rfl, rfl⟩ rfl rfl rfl rfl rfl (by kernel_rfl) Try.func9 (by kernel_rfl)
    (of_decide_eq_true (by kernel_rfl)) (by unfold Func.isWrapper; first | (rw [if_pos (by decide +kernel)]; kernel_rfl) | (rw [if_neg (by decide +kernel)]; exact ⟨rfl, rfl⟩))
    (fun os started H enc _ => FnExactFifoFill_lifted os started H enc)
end Go.Proofs.Ytfjdmdjoebjciaa
