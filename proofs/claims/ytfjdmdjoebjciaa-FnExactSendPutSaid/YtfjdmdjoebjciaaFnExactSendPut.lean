/- FnExactSendPut: for all arguments the program's SendPut answers what the reference's answers, leaves its arguments as they were, and its result shares no memory. No condition. -/
import Derived.Test.YtfjdmdjoebjciaaSend6
import Derived.Test.YtfjdmdjoebjciaaSaidB
namespace Go.Proofs.Ytfjdmdjoebjciaa
open Go.ChangeShapes Go.WideShapes Go.ChangeAt Go.RowKit

set_option maxHeartbeats 4000000 in
set_option maxRecDepth 100000 in
theorem FnExactSendPut_walk (r0 : Int) (h0 : Int) (l0 : Int) (a0 : Option Addr) (z0 : List Int) (cap0 : Nat) (x1 : Int) (w : World) (rz0 : Ints w a0 z0) (_lc0 : z0.length ≤ cap0) (lm0 : cap0 ≤ maxLen) (_wx1 : -9223372036854775808 ≤ x1 ∧ x1 ≤ 9223372036854775807) :
    Calls Try.prog 12 #[.agg #[.int .i64 r0, .slice a0 z0.length cap0, .int .i64 h0, .int .i64 l0], .int .i64 x1] w fun e w' => e = .returned (.bool true) ∧ Below w.heap.size w w' := by
  unfold maxLen at lm0
  by_cases hn0 : (z0.length : Int) ≤ 1048576
  case neg =>
    have hn0' : (1048576 : Int) < (z0.length : Int) := by omega
    go_enter Try.func12, Try.ntmps12
    go_wp2_with fail
    refine name_calls fun W1 hW1 => ?_
    have B2 : Below w.heap.size w W1 := by
      rw [hW1]
      repeat' (first | exact Below.refl _ _ | exact Nat.le_refl _ | assumption | refine Below.drew ?_ | refine below_drewN ?_ _ | (refine Below.alloc ?_ (by first | exact Nat.le_refl _ | omega | (simp; done) | (simp; omega)) _) | (refine Below.setCell ?_ (by first | exact Nat.le_refl _ | omega | (simp; done) | (simp; omega)) _))
    have H3 := Lib.hid (show W1.heap[w.heap.size]? = some (.cells #[.int .i64 r0, .slice a0 z0.length cap0, .int .i64 h0, .int .i64 l0] 56 (0, 0)) by rw [hW1]; exact heap_new_at _ _ _ rfl)
    have zW1 : W1.heap.size = w.heap.size + 1 := by rw [hW1]; simp
    clear hW1
    refine (szSender_no r0 h0 l0 a0 _ cap0 1048576 W1 hn0' (by omega) (by omega)).mono ?_
    rintro e w5 ⟨rfl, b4⟩
    have zw5 := b4.size
    have B6 := B2.trans (b4.mono B2.size)
    clear B2
    replace H3 := Lib.hid ((b4.block _ (Array.getElem?_eq_some_iff.1 H3.out).1).trans H3.out)
    go_wp2
    go_ret
    exact ⟨rfl, B6⟩
  go_enter Try.func12, Try.ntmps12
  go_wp2_with fail
  refine name_calls fun W7 hW7 => ?_
  have B8 : Below w.heap.size w W7 := by
    rw [hW7]
    repeat' (first | exact Below.refl _ _ | exact Nat.le_refl _ | assumption | refine Below.drew ?_ | refine below_drewN ?_ _ | (refine Below.alloc ?_ (by first | exact Nat.le_refl _ | omega | (simp; done) | (simp; omega)) _) | (refine Below.setCell ?_ (by first | exact Nat.le_refl _ | omega | (simp; done) | (simp; omega)) _))
  have H9 := Lib.hid (show W7.heap[w.heap.size]? = some (.cells #[.int .i64 r0, .slice a0 z0.length cap0, .int .i64 h0, .int .i64 l0] 56 (0, 0)) by rw [hW7]; exact heap_new_at _ _ _ rfl)
  have zW7 : W7.heap.size = w.heap.size + 1 := by rw [hW7]; simp
  clear hW7
  refine (szSender_yes r0 h0 l0 a0 _ cap0 1048576 W7 hn0 (by omega)).mono ?_
  rintro e w11 ⟨rfl, b10⟩
  have zw11 := b10.size
  have B12 := B8.trans (b10.mono B8.size)
  clear B8
  replace H9 := Lib.hid ((b10.block _ (Array.getElem?_eq_some_iff.1 H9.out).1).trans H9.out)
  have lr := sputR_len r0 h0 l0 z0 x1
  obtain ⟨cc13, cc14, cc15, cc16⟩ := cells4 H9.out
  have ll17 := (Array.getElem?_eq_some_iff.1 H9.out).1
  go_wp2_with fail
  clear cc13 cc14 cc15 cc16 ll17
  refine (toSender_any r0 h0 l0 a0 z0 cap0 w11 (rz0.below B12) (by omega)).mono ?_
  rintro e w22 ⟨a18, c19, rfl, o20, b21⟩
  have zw22 := b21.size
  have B23 := B12.trans (b21.mono B12.size)
  clear B12
  replace H9 := Lib.hid ((b21.block _ (Array.getElem?_eq_some_iff.1 H9.out).1).trans H9.out)
  have io20 := own_in o20
  go_wp2_with fail
  refine (specSendPut_x r0 h0 l0 a18 z0 c19 _ x1 w22 o20 (by omega)).mono ?_
  rintro e w28 ⟨a24, c25, rfl, o26, b27⟩
  have zw28 := b27.size
  have B29 := B23.trans (b27.mono B23.size)
  clear B23
  replace o20 := own_below o20 b27
  replace H9 := Lib.hid ((b27.block _ (Array.getElem?_eq_some_iff.1 H9.out).1).trans H9.out)
  have io26 := own_in o26
  clear o20
  obtain ⟨cc30, cc31, cc32, cc33⟩ := cells4 H9.out
  have ll34 := (Array.getElem?_eq_some_iff.1 H9.out).1
  go_wp2_with fail
  clear cc30 cc31 cc32 cc33 ll34
  refine name_calls fun W40 hW40 => ?_
  have zW40 : W40.heap.size = w28.heap.size + 1 := by rw [hW40]; simp
  have H410 := heap_new_at w28 (.cells #[.int .i64 ((sputR r0 h0 l0 z0 x1).r), .slice a24 ((sputR r0 h0 l0 z0 x1).b).length c25, .int .i64 ((sputR r0 h0 l0 z0 x1).h), .int .i64 ((sputR r0 h0 l0 z0 x1).l)] 47 (0, 0)) _ rfl
  rw [← hW40] at H410
  have H41 := Lib.hid H410
  clear H410
  have B42 := B29.alloc B29.size (.cells #[.int .i64 ((sputR r0 h0 l0 z0 x1).r), .slice a24 ((sputR r0 h0 l0 z0 x1).b).length c25, .int .i64 ((sputR r0 h0 l0 z0 x1).h), .int .i64 ((sputR r0 h0 l0 z0 x1).l)] 47 (0, 0))
  rw [← hW40] at B42
  clear B29
  replace o26 := World.ownsRow.alloc o26 (.cells #[.int .i64 ((sputR r0 h0 l0 z0 x1).r), .slice a24 ((sputR r0 h0 l0 z0 x1).b).length c25, .int .i64 ((sputR r0 h0 l0 z0 x1).h), .int .i64 ((sputR r0 h0 l0 z0 x1).l)] 47 (0, 0))
  rw [← hW40] at o26
  have H90 := (Below.heap_alloc w28 (.cells #[.int .i64 ((sputR r0 h0 l0 z0 x1).r), .slice a24 ((sputR r0 h0 l0 z0 x1).b).length c25, .int .i64 ((sputR r0 h0 l0 z0 x1).h), .int .i64 ((sputR r0 h0 l0 z0 x1).l)] 47 (0, 0)) _ (Array.getElem?_eq_some_iff.1 H9.out).1).trans H9.out
  rw [← hW40] at H90
  clear H9
  have H9 := Lib.hid H90
  clear H90
  clear hW40
  refine (toSender_any r0 h0 l0 a0 z0 cap0 W40 (rz0.below B42) (by omega)).mono ?_
  rintro e w39 ⟨a35, c36, rfl, o37, b38⟩
  have zw39 := b38.size
  have B43 := B42.trans (b38.mono B42.size)
  clear B42
  replace o26 := own_below o26 b38
  replace H9 := Lib.hid ((b38.block _ (Array.getElem?_eq_some_iff.1 H9.out).1).trans H9.out)
  replace H41 := Lib.hid ((b38.block _ (Array.getElem?_eq_some_iff.1 H41.out).1).trans H41.out)
  have io37 := own_in o37
  go_wp2_with fail
  refine name_calls fun W44 hW44 => ?_
  have zW44 : W44.heap.size = w39.heap.size + 1 := by rw [hW44]; simp
  have H450 := heap_new_at w39 (.cells #[.int .i64 r0, .slice a35 z0.length c36, .int .i64 h0, .int .i64 l0] 47 (0, 0)) _ rfl
  rw [← hW44] at H450
  have H45 := Lib.hid H450
  clear H450
  have B46 := B43.alloc B43.size (.cells #[.int .i64 r0, .slice a35 z0.length c36, .int .i64 h0, .int .i64 l0] 47 (0, 0))
  rw [← hW44] at B46
  clear B43
  replace o26 := World.ownsRow.alloc o26 (.cells #[.int .i64 r0, .slice a35 z0.length c36, .int .i64 h0, .int .i64 l0] 47 (0, 0))
  rw [← hW44] at o26
  replace o37 := World.ownsRow.alloc o37 (.cells #[.int .i64 r0, .slice a35 z0.length c36, .int .i64 h0, .int .i64 l0] 47 (0, 0))
  rw [← hW44] at o37
  have H90 := (Below.heap_alloc w39 (.cells #[.int .i64 r0, .slice a35 z0.length c36, .int .i64 h0, .int .i64 l0] 47 (0, 0)) _ (Array.getElem?_eq_some_iff.1 H9.out).1).trans H9.out
  rw [← hW44] at H90
  clear H9
  have H9 := Lib.hid H90
  clear H90
  have H410 := (Below.heap_alloc w39 (.cells #[.int .i64 r0, .slice a35 z0.length c36, .int .i64 h0, .int .i64 l0] 47 (0, 0)) _ (Array.getElem?_eq_some_iff.1 H41.out).1).trans H41.out
  rw [← hW44] at H410
  clear H41
  have H41 := Lib.hid H410
  clear H410
  clear hW44
  refine (implSendPut_x r0 h0 l0 a35 z0 c36 _ x1 W44 o37 (by omega)).mono ?_
  rintro e w51 ⟨a47, c48, rfl, o49, b50⟩
  have zw51 := b50.size
  have B52 := B46.trans (b50.mono B46.size)
  clear B46
  replace o26 := own_below o26 b50
  replace o37 := own_below o37 b50
  replace H9 := Lib.hid ((b50.block _ (Array.getElem?_eq_some_iff.1 H9.out).1).trans H9.out)
  replace H41 := Lib.hid ((b50.block _ (Array.getElem?_eq_some_iff.1 H41.out).1).trans H41.out)
  replace H45 := Lib.hid ((b50.block _ (Array.getElem?_eq_some_iff.1 H45.out).1).trans H45.out)
  have io49 := own_in o49
  obtain ⟨cc53, cc54, cc55, cc56⟩ := cells4 H41.out
  have ll57 := (Array.getElem?_eq_some_iff.1 H41.out).1
  go_wp2_with fail
  clear cc53 cc54 cc55 cc56 ll57
  refine name_calls fun W60 hW60 => ?_
  have zW60 : W60.heap.size = w51.heap.size + 1 := by rw [hW60]; simp
  have H610 := heap_new_at w51 (.cells #[.int .i64 ((sputR r0 h0 l0 z0 x1).r), .slice a47 ((sputR r0 h0 l0 z0 x1).b).length c48, .int .i64 ((sputR r0 h0 l0 z0 x1).h), .int .i64 ((sputR r0 h0 l0 z0 x1).l)] 47 (0, 0)) _ rfl
  rw [← hW60] at H610
  have H61 := Lib.hid H610
  clear H610
  have B62 := B52.alloc B52.size (.cells #[.int .i64 ((sputR r0 h0 l0 z0 x1).r), .slice a47 ((sputR r0 h0 l0 z0 x1).b).length c48, .int .i64 ((sputR r0 h0 l0 z0 x1).h), .int .i64 ((sputR r0 h0 l0 z0 x1).l)] 47 (0, 0))
  rw [← hW60] at B62
  clear B52
  replace o26 := World.ownsRow.alloc o26 (.cells #[.int .i64 ((sputR r0 h0 l0 z0 x1).r), .slice a47 ((sputR r0 h0 l0 z0 x1).b).length c48, .int .i64 ((sputR r0 h0 l0 z0 x1).h), .int .i64 ((sputR r0 h0 l0 z0 x1).l)] 47 (0, 0))
  rw [← hW60] at o26
  replace o37 := World.ownsRow.alloc o37 (.cells #[.int .i64 ((sputR r0 h0 l0 z0 x1).r), .slice a47 ((sputR r0 h0 l0 z0 x1).b).length c48, .int .i64 ((sputR r0 h0 l0 z0 x1).h), .int .i64 ((sputR r0 h0 l0 z0 x1).l)] 47 (0, 0))
  rw [← hW60] at o37
  replace o49 := World.ownsRow.alloc o49 (.cells #[.int .i64 ((sputR r0 h0 l0 z0 x1).r), .slice a47 ((sputR r0 h0 l0 z0 x1).b).length c48, .int .i64 ((sputR r0 h0 l0 z0 x1).h), .int .i64 ((sputR r0 h0 l0 z0 x1).l)] 47 (0, 0))
  rw [← hW60] at o49
  have H90 := (Below.heap_alloc w51 (.cells #[.int .i64 ((sputR r0 h0 l0 z0 x1).r), .slice a47 ((sputR r0 h0 l0 z0 x1).b).length c48, .int .i64 ((sputR r0 h0 l0 z0 x1).h), .int .i64 ((sputR r0 h0 l0 z0 x1).l)] 47 (0, 0)) _ (Array.getElem?_eq_some_iff.1 H9.out).1).trans H9.out
  rw [← hW60] at H90
  clear H9
  have H9 := Lib.hid H90
  clear H90
  have H410 := (Below.heap_alloc w51 (.cells #[.int .i64 ((sputR r0 h0 l0 z0 x1).r), .slice a47 ((sputR r0 h0 l0 z0 x1).b).length c48, .int .i64 ((sputR r0 h0 l0 z0 x1).h), .int .i64 ((sputR r0 h0 l0 z0 x1).l)] 47 (0, 0)) _ (Array.getElem?_eq_some_iff.1 H41.out).1).trans H41.out
  rw [← hW60] at H410
  clear H41
  have H41 := Lib.hid H410
  clear H410
  have H450 := (Below.heap_alloc w51 (.cells #[.int .i64 ((sputR r0 h0 l0 z0 x1).r), .slice a47 ((sputR r0 h0 l0 z0 x1).b).length c48, .int .i64 ((sputR r0 h0 l0 z0 x1).h), .int .i64 ((sputR r0 h0 l0 z0 x1).l)] 47 (0, 0)) _ (Array.getElem?_eq_some_iff.1 H45.out).1).trans H45.out
  rw [← hW60] at H450
  clear H45
  have H45 := Lib.hid H450
  clear H450
  clear hW60
  refine (eqSender_any ((sputR r0 h0 l0 z0 x1).r) ((sputR r0 h0 l0 z0 x1).h) ((sputR r0 h0 l0 z0 x1).l) ((sputR r0 h0 l0 z0 x1).r) ((sputR r0 h0 l0 z0 x1).h) ((sputR r0 h0 l0 z0 x1).l) a47 a24 ((sputR r0 h0 l0 z0 x1).b) ((sputR r0 h0 l0 z0 x1).b) c48 c25 W60 (own_cells o49) (own_cells o26) (by omega) (by omega)).mono ?_
  rintro e w59 ⟨rfl, b58⟩
  have zw59 := b58.size
  have B63 := B62.trans (b58.mono B62.size)
  clear B62
  replace o26 := own_below o26 b58
  replace o37 := own_below o37 b58
  replace o49 := own_below o49 b58
  replace H9 := Lib.hid ((b58.block _ (Array.getElem?_eq_some_iff.1 H9.out).1).trans H9.out)
  replace H41 := Lib.hid ((b58.block _ (Array.getElem?_eq_some_iff.1 H41.out).1).trans H41.out)
  replace H45 := Lib.hid ((b58.block _ (Array.getElem?_eq_some_iff.1 H45.out).1).trans H45.out)
  replace H61 := Lib.hid ((b58.block _ (Array.getElem?_eq_some_iff.1 H61.out).1).trans H61.out)
  obtain ⟨cc64, cc65, cc66, cc67⟩ := cells4 H45.out
  have ll68 := (Array.getElem?_eq_some_iff.1 H45.out).1
  obtain ⟨cc69, cc70, cc71, cc72⟩ := cells4 H9.out
  have ll73 := (Array.getElem?_eq_some_iff.1 H9.out).1
  go_wp2_with fail
  go_region_held3 (fun v => v.cell? ⟨w39.heap.size, 0, none⟩ = some (.int .i64 r0) ∧ v.cell? ⟨w39.heap.size, 1, none⟩ = some (.slice a35 z0.length c36) ∧ v.cell? ⟨w39.heap.size, 2, none⟩ = some (.int .i64 h0) ∧ v.cell? ⟨w39.heap.size, 3, none⟩ = some (.int .i64 l0) ∧ v.cell? ⟨w.heap.size, 0, none⟩ = some (.int .i64 r0) ∧ v.cell? ⟨w.heap.size, 1, none⟩ = some (.slice a0 z0.length cap0) ∧ v.cell? ⟨w.heap.size, 2, none⟩ = some (.int .i64 h0) ∧ v.cell? ⟨w.heap.size, 3, none⟩ = some (.int .i64 l0))
    (go_keep)
    (first
      | (go_at_call 41
         refine (toSender_any r0 h0 l0 a0 z0 cap0 _ (Cells.drew (rz0.below B63)) (by omega)).mono ?_
         rintro e w74 ⟨a76, c77, rfl, o78, b790⟩
         have b79 : Below w59.heap.size w59 w74 := (Below.refl _ w59).drew.trans b790
         have cc64A := Keeps.of_below b79 _ _ _ cc64
         have cc65A := Keeps.of_below b79 _ _ _ cc65
         have cc66A := Keeps.of_below b79 _ _ _ cc66
         have cc67A := Keeps.of_below b79 _ _ _ cc67
         have cc69A := Keeps.of_below b79 _ _ _ cc69
         have cc70A := Keeps.of_below b79 _ _ _ cc70
         have cc71A := Keeps.of_below b79 _ _ _ cc71
         have cc72A := Keeps.of_below b79 _ _ _ cc72
         skip)
      | (go_at_call 42
         refine (eqSender_any r0 h0 l0 r0 h0 l0 a35 a76 z0 z0 c36 c77 _ (own_cells (own_below o37 b79)) (own_cells o78) (by omega) (by omega)).mono ?_
         rintro e w75 ⟨rfl, b80⟩
         have cc64B := Keeps.of_below b80 _ _ _ cc64A
         have cc65B := Keeps.of_below b80 _ _ _ cc65A
         have cc66B := Keeps.of_below b80 _ _ _ cc66A
         have cc67B := Keeps.of_below b80 _ _ _ cc67A
         have cc69B := Keeps.of_below b80 _ _ _ cc69A
         have cc70B := Keeps.of_below b80 _ _ _ cc70A
         have cc71B := Keeps.of_below b80 _ _ _ cc71A
         have cc72B := Keeps.of_below b80 _ _ _ cc72A
         skip))
  have b81 := below_join b79 b80
  clear ll68 ll73 cc64 cc64A cc64B cc65 cc65A cc65B cc66 cc66A cc66B cc67 cc67A cc67B cc69 cc69A cc69B cc70 cc70A cc70B cc71 cc71A cc71B cc72 cc72A cc72B o78
  have zw75 := b81.size
  have B82 := B63.trans (b81.mono B63.size)
  clear B63
  replace o26 := own_below o26 b81
  replace o37 := own_below o37 b81
  replace o49 := own_below o49 b81
  replace H9 := Lib.hid ((b81.block _ (Array.getElem?_eq_some_iff.1 H9.out).1).trans H9.out)
  replace H41 := Lib.hid ((b81.block _ (Array.getElem?_eq_some_iff.1 H41.out).1).trans H41.out)
  replace H45 := Lib.hid ((b81.block _ (Array.getElem?_eq_some_iff.1 H45.out).1).trans H45.out)
  replace H61 := Lib.hid ((b81.block _ (Array.getElem?_eq_some_iff.1 H61.out).1).trans H61.out)
  clear b79 b80 b790
  obtain ⟨cc83, cc84, cc85, cc86⟩ := cells4 H45.out
  have ll87 := (Array.getElem?_eq_some_iff.1 H45.out).1
  go_wp2_with fail
  clear cc83 cc84 cc85 cc86 ll87
  refine (markSender_any _ r0 h0 l0 a35 _ c36 1 _ w75 o37 (by omega) (by omega)).mono ?_
  rintro e w88 ⟨rfl, o89, g90⟩
  have zw88 := g90.size
  have B91 := below_mark B82 io37 (by omega) B82.size g90
  clear B82
  replace o26 := own_apart o26 io26 io37 (by omega) g90
  replace o49 := own_apart o49 io49 io37 (by omega) g90
  replace H9 := Lib.hid (box_mark H9.out io37 (by omega) g90)
  replace H41 := Lib.hid (box_mark H41.out io37 (by omega) g90)
  replace H45 := Lib.hid (box_mark H45.out io37 (by omega) g90)
  replace H61 := Lib.hid (box_mark H61.out io37 (by omega) g90)
  clear o37 g90
  clear o89
  obtain ⟨cc92, cc93, cc94, cc95⟩ := cells4 H61.out
  have ll96 := (Array.getElem?_eq_some_iff.1 H61.out).1
  obtain ⟨cc97, cc98, cc99, cc100⟩ := cells4 H41.out
  have ll101 := (Array.getElem?_eq_some_iff.1 H41.out).1
  go_wp2_with fail
  clear cc92 cc93 cc94 cc95 ll96 cc97 cc98 cc99 cc100 ll101
  refine (eqSender_any ((sputR r0 h0 l0 z0 x1).r) ((sputR r0 h0 l0 z0 x1).h) ((sputR r0 h0 l0 z0 x1).l) ((sputR r0 h0 l0 z0 x1).r) ((sputR r0 h0 l0 z0 x1).h) ((sputR r0 h0 l0 z0 x1).l) a47 a24 ((sputR r0 h0 l0 z0 x1).b) ((sputR r0 h0 l0 z0 x1).b) c48 c25 w88 (own_cells o49) (own_cells o26) (by omega) (by omega)).mono ?_
  rintro e w103 ⟨rfl, b102⟩
  have zw103 := b102.size
  have B104 := B91.trans (b102.mono B91.size)
  clear B91
  replace o26 := own_below o26 b102
  replace o49 := own_below o49 b102
  replace H9 := Lib.hid ((b102.block _ (Array.getElem?_eq_some_iff.1 H9.out).1).trans H9.out)
  replace H41 := Lib.hid ((b102.block _ (Array.getElem?_eq_some_iff.1 H41.out).1).trans H41.out)
  replace H45 := Lib.hid ((b102.block _ (Array.getElem?_eq_some_iff.1 H45.out).1).trans H45.out)
  replace H61 := Lib.hid ((b102.block _ (Array.getElem?_eq_some_iff.1 H61.out).1).trans H61.out)
  obtain ⟨cc105, cc106, cc107, cc108⟩ := cells4 H61.out
  have ll109 := (Array.getElem?_eq_some_iff.1 H61.out).1
  go_wp2_with fail
  clear cc105 cc106 cc107 cc108 ll109
  refine (markSender_any _ ((sputR r0 h0 l0 z0 x1).r) ((sputR r0 h0 l0 z0 x1).h) ((sputR r0 h0 l0 z0 x1).l) a47 _ c48 1 _ w103 o49 (by omega) (by omega)).mono ?_
  rintro e w110 ⟨rfl, o111, g112⟩
  have zw110 := g112.size
  have B113 := below_mark B104 io49 (by omega) B104.size g112
  clear B104
  replace o26 := own_apart o26 io26 io49 (by omega) g112
  replace H9 := Lib.hid (box_mark H9.out io49 (by omega) g112)
  replace H41 := Lib.hid (box_mark H41.out io49 (by omega) g112)
  replace H45 := Lib.hid (box_mark H45.out io49 (by omega) g112)
  replace H61 := Lib.hid (box_mark H61.out io49 (by omega) g112)
  clear o49 g112
  obtain ⟨cc114, cc115, cc116, cc117⟩ := cells4 H61.out
  have ll118 := (Array.getElem?_eq_some_iff.1 H61.out).1
  go_wp2_with fail
  clear cc114 cc115 cc116 cc117 ll118
  refine (heldSender_any ((sputR r0 h0 l0 z0 x1).r) ((sputR r0 h0 l0 z0 x1).h) ((sputR r0 h0 l0 z0 x1).l) a47 _ c48 1 w110 (own_cells o111) (by omega) (by omega)).mono ?_
  rintro e w120 ⟨rfl, b119⟩
  have zw120 := b119.size
  have B121 := B113.trans (b119.mono B113.size)
  clear B113
  replace o26 := own_below o26 b119
  replace o111 := own_below o111 b119
  replace H9 := Lib.hid ((b119.block _ (Array.getElem?_eq_some_iff.1 H9.out).1).trans H9.out)
  replace H41 := Lib.hid ((b119.block _ (Array.getElem?_eq_some_iff.1 H41.out).1).trans H41.out)
  replace H45 := Lib.hid ((b119.block _ (Array.getElem?_eq_some_iff.1 H45.out).1).trans H45.out)
  replace H61 := Lib.hid ((b119.block _ (Array.getElem?_eq_some_iff.1 H61.out).1).trans H61.out)
  obtain ⟨cc122, cc123, cc124, cc125⟩ := cells4 H9.out
  have ll126 := (Array.getElem?_eq_some_iff.1 H9.out).1
  go_wp2_with fail
  clear cc122 cc123 cc124 cc125 ll126
  refine (toSender_any r0 h0 l0 a0 z0 cap0 w120 (rz0.below B121) (by omega)).mono ?_
  rintro e w131 ⟨a127, c128, rfl, o129, b130⟩
  have zw131 := b130.size
  have B132 := B121.trans (b130.mono B121.size)
  clear B121
  replace o26 := own_below o26 b130
  replace o111 := own_below o111 b130
  replace H9 := Lib.hid ((b130.block _ (Array.getElem?_eq_some_iff.1 H9.out).1).trans H9.out)
  replace H41 := Lib.hid ((b130.block _ (Array.getElem?_eq_some_iff.1 H41.out).1).trans H41.out)
  replace H45 := Lib.hid ((b130.block _ (Array.getElem?_eq_some_iff.1 H45.out).1).trans H45.out)
  replace H61 := Lib.hid ((b130.block _ (Array.getElem?_eq_some_iff.1 H61.out).1).trans H61.out)
  have io129 := own_in o129
  go_wp2_with fail
  refine (implSendPut_x r0 h0 l0 a127 z0 c128 _ x1 w131 o129 (by omega)).mono ?_
  rintro e w137 ⟨a133, c134, rfl, o135, b136⟩
  have zw137 := b136.size
  have B138 := B132.trans (b136.mono B132.size)
  clear B132
  replace o26 := own_below o26 b136
  replace o111 := own_below o111 b136
  replace o129 := own_below o129 b136
  replace H9 := Lib.hid ((b136.block _ (Array.getElem?_eq_some_iff.1 H9.out).1).trans H9.out)
  replace H41 := Lib.hid ((b136.block _ (Array.getElem?_eq_some_iff.1 H41.out).1).trans H41.out)
  replace H45 := Lib.hid ((b136.block _ (Array.getElem?_eq_some_iff.1 H45.out).1).trans H45.out)
  replace H61 := Lib.hid ((b136.block _ (Array.getElem?_eq_some_iff.1 H61.out).1).trans H61.out)
  have io135 := own_in o135
  clear o129
  obtain ⟨cc139, cc140, cc141, cc142⟩ := cells4 H41.out
  have ll143 := (Array.getElem?_eq_some_iff.1 H41.out).1
  go_wp2_with fail
  clear cc139 cc140 cc141 cc142 ll143
  refine name_calls fun W146 hW146 => ?_
  have zW146 : W146.heap.size = w137.heap.size + 1 := by rw [hW146]; simp
  have H1470 := heap_new_at w137 (.cells #[.int .i64 ((sputR r0 h0 l0 z0 x1).r), .slice a133 ((sputR r0 h0 l0 z0 x1).b).length c134, .int .i64 ((sputR r0 h0 l0 z0 x1).h), .int .i64 ((sputR r0 h0 l0 z0 x1).l)] 47 (0, 0)) _ rfl
  rw [← hW146] at H1470
  have H147 := Lib.hid H1470
  clear H1470
  have B148 := B138.alloc B138.size (.cells #[.int .i64 ((sputR r0 h0 l0 z0 x1).r), .slice a133 ((sputR r0 h0 l0 z0 x1).b).length c134, .int .i64 ((sputR r0 h0 l0 z0 x1).h), .int .i64 ((sputR r0 h0 l0 z0 x1).l)] 47 (0, 0))
  rw [← hW146] at B148
  clear B138
  replace o26 := World.ownsRow.alloc o26 (.cells #[.int .i64 ((sputR r0 h0 l0 z0 x1).r), .slice a133 ((sputR r0 h0 l0 z0 x1).b).length c134, .int .i64 ((sputR r0 h0 l0 z0 x1).h), .int .i64 ((sputR r0 h0 l0 z0 x1).l)] 47 (0, 0))
  rw [← hW146] at o26
  replace o111 := World.ownsRow.alloc o111 (.cells #[.int .i64 ((sputR r0 h0 l0 z0 x1).r), .slice a133 ((sputR r0 h0 l0 z0 x1).b).length c134, .int .i64 ((sputR r0 h0 l0 z0 x1).h), .int .i64 ((sputR r0 h0 l0 z0 x1).l)] 47 (0, 0))
  rw [← hW146] at o111
  replace o135 := World.ownsRow.alloc o135 (.cells #[.int .i64 ((sputR r0 h0 l0 z0 x1).r), .slice a133 ((sputR r0 h0 l0 z0 x1).b).length c134, .int .i64 ((sputR r0 h0 l0 z0 x1).h), .int .i64 ((sputR r0 h0 l0 z0 x1).l)] 47 (0, 0))
  rw [← hW146] at o135
  have H90 := (Below.heap_alloc w137 (.cells #[.int .i64 ((sputR r0 h0 l0 z0 x1).r), .slice a133 ((sputR r0 h0 l0 z0 x1).b).length c134, .int .i64 ((sputR r0 h0 l0 z0 x1).h), .int .i64 ((sputR r0 h0 l0 z0 x1).l)] 47 (0, 0)) _ (Array.getElem?_eq_some_iff.1 H9.out).1).trans H9.out
  rw [← hW146] at H90
  clear H9
  have H9 := Lib.hid H90
  clear H90
  have H410 := (Below.heap_alloc w137 (.cells #[.int .i64 ((sputR r0 h0 l0 z0 x1).r), .slice a133 ((sputR r0 h0 l0 z0 x1).b).length c134, .int .i64 ((sputR r0 h0 l0 z0 x1).h), .int .i64 ((sputR r0 h0 l0 z0 x1).l)] 47 (0, 0)) _ (Array.getElem?_eq_some_iff.1 H41.out).1).trans H41.out
  rw [← hW146] at H410
  clear H41
  have H41 := Lib.hid H410
  clear H410
  have H450 := (Below.heap_alloc w137 (.cells #[.int .i64 ((sputR r0 h0 l0 z0 x1).r), .slice a133 ((sputR r0 h0 l0 z0 x1).b).length c134, .int .i64 ((sputR r0 h0 l0 z0 x1).h), .int .i64 ((sputR r0 h0 l0 z0 x1).l)] 47 (0, 0)) _ (Array.getElem?_eq_some_iff.1 H45.out).1).trans H45.out
  rw [← hW146] at H450
  clear H45
  have H45 := Lib.hid H450
  clear H450
  have H610 := (Below.heap_alloc w137 (.cells #[.int .i64 ((sputR r0 h0 l0 z0 x1).r), .slice a133 ((sputR r0 h0 l0 z0 x1).b).length c134, .int .i64 ((sputR r0 h0 l0 z0 x1).h), .int .i64 ((sputR r0 h0 l0 z0 x1).l)] 47 (0, 0)) _ (Array.getElem?_eq_some_iff.1 H61.out).1).trans H61.out
  rw [← hW146] at H610
  clear H61
  have H61 := Lib.hid H610
  clear H610
  clear hW146
  refine (eqSender_any ((sputR r0 h0 l0 z0 x1).r) ((sputR r0 h0 l0 z0 x1).h) ((sputR r0 h0 l0 z0 x1).l) ((sputR r0 h0 l0 z0 x1).r) ((sputR r0 h0 l0 z0 x1).h) ((sputR r0 h0 l0 z0 x1).l) a133 a24 ((sputR r0 h0 l0 z0 x1).b) ((sputR r0 h0 l0 z0 x1).b) c134 c25 W146 (own_cells o135) (own_cells o26) (by omega) (by omega)).mono ?_
  rintro e w145 ⟨rfl, b144⟩
  have zw145 := b144.size
  have B149 := B148.trans (b144.mono B148.size)
  clear B148
  replace o26 := own_below o26 b144
  replace o111 := own_below o111 b144
  replace o135 := own_below o135 b144
  replace H9 := Lib.hid ((b144.block _ (Array.getElem?_eq_some_iff.1 H9.out).1).trans H9.out)
  replace H41 := Lib.hid ((b144.block _ (Array.getElem?_eq_some_iff.1 H41.out).1).trans H41.out)
  replace H45 := Lib.hid ((b144.block _ (Array.getElem?_eq_some_iff.1 H45.out).1).trans H45.out)
  replace H61 := Lib.hid ((b144.block _ (Array.getElem?_eq_some_iff.1 H61.out).1).trans H61.out)
  replace H147 := Lib.hid ((b144.block _ (Array.getElem?_eq_some_iff.1 H147.out).1).trans H147.out)
  clear o135
  obtain ⟨cc150, cc151, cc152, cc153⟩ := cells4 H61.out
  have ll154 := (Array.getElem?_eq_some_iff.1 H61.out).1
  go_wp2_with fail
  clear cc150 cc151 cc152 cc153 ll154
  refine (heldSender_any ((sputR r0 h0 l0 z0 x1).r) ((sputR r0 h0 l0 z0 x1).h) ((sputR r0 h0 l0 z0 x1).l) a47 _ c48 1 w145 (own_cells o111) (by omega) (by omega)).mono ?_
  rintro e w156 ⟨rfl, b155⟩
  have zw156 := b155.size
  have B157 := B149.trans (b155.mono B149.size)
  clear B149
  replace o26 := own_below o26 b155
  replace o111 := own_below o111 b155
  replace H9 := Lib.hid ((b155.block _ (Array.getElem?_eq_some_iff.1 H9.out).1).trans H9.out)
  replace H41 := Lib.hid ((b155.block _ (Array.getElem?_eq_some_iff.1 H41.out).1).trans H41.out)
  replace H45 := Lib.hid ((b155.block _ (Array.getElem?_eq_some_iff.1 H45.out).1).trans H45.out)
  replace H61 := Lib.hid ((b155.block _ (Array.getElem?_eq_some_iff.1 H61.out).1).trans H61.out)
  replace H147 := Lib.hid ((b155.block _ (Array.getElem?_eq_some_iff.1 H147.out).1).trans H147.out)
  go_wp2
  go_ret
  exact ⟨rfl, B157⟩

set_option linter.unusedVariables false in
set_option maxRecDepth 100000 in
theorem FnExactSendPut_lifted (os : Os) (started : os.Started) (H : Type) (enc : TypeId × Value → H) :
    ReturnsInHanded {} Try.checked os 12 .any (Rows.fnExactSendPutSpec.pre6 enc Try.prog Try.f12 Rows.fnExactSendPutRow.domain false) (Rows.fnExactSendPutSpec.post enc Try.prog Try.f12 false true false false) := by
  refine returnsInHanded_of_change (C := Try.checked) own_knob started (by kernel_rfl) Try.func12
    (ChangeSpec.witness6 (enc := enc) (C := Try.checked) false ⟨#[], #[.agg #[.int .i64 0, .slice none 0 0, .int .i64 0, .int .i64 0], .int .i64 0], []⟩ 8 (by kernel_rfl) (by kernel_rfl) (by kernel_rfl) (by kernel_rfl)) ?_
  intro W base args ds gs before hval0 hW hcnd _
  have hval : ∀ (j : Nat) t v, Try.f12.params[j]? = some t → args[j]? = some v → Value.okWide Try.prog W .any base t v := hval0
  have hW' := hW
  obtain ⟨p, q, hA0, hV, rfl, hfz, hnd⟩ := hW
  have hA : DataW.TrodAll enc Try.prog W 0 (fun _ => true) true Try.f12.params.toList args.toList ds p := hA0
  rw [Try.params12] at hA hval
  obtain ⟨v0, vs0, d0, ds0, p0, q0, hargs, rfl, rfl, h0, r0⟩ := trodAll_cons hA
  obtain ⟨v1, vs1, d1, ds1, p1, q1, rfl, rfl, rfl, h1, r1⟩ := trodAll_cons r0
  obtain ⟨rfl, rfl, rfl⟩ := trodAll_nil r1
  obtain rfl : args = #[v0, v1] := by cases args; simp_all
  obtain ⟨rfl, rfl⟩ := trodVars_none hV
  have k0 := h0
  have lt0 : ∀ x ∈ p0, x.block < W.heap.size := by obtain ⟨m, hm⟩ := k0; exact DataW.trod_lt m _ _ _ hm
  obtain ⟨rm0, hm0, lf0, a0, cap0, z0, rfl, lc0, lm0, rz0⟩ := rd_sender (hval 0 56 v0 rfl rfl) h0
  obtain ⟨x1, rfl, rfl, rfl, wx1⟩ := open_int Try.underlying3 (hval 1 3 v1 rfl rfl) h1
  clear hA0 hval0
  refine (FnExactSendPut_walk rm0 hm0 lf0 a0 z0 cap0 x1 W rz0 lc0 lm0 (bd_i64 wx1)).mono fun e W' ⟨he, bel⟩ => ?_
  subst he
  exact ⟨_, rfl, _, _, _, [], _, [], hW', trodAll_mk1 (shut_bool Try.underlying4 _), (trodAll_cons_mk (Below.trod laid_out (by kernel_rfl) (of_decide_eq_true (by kernel_rfl)) k0 bel lt0) (trodAll_cons_mk (shut_int Try.underlying3 wx1) trodAll_mk0)), rfl, bel.frame _, fun h => by cases h⟩

theorem FnExactSendPut_holds : Rows.FnExactSendPutSaid :=
  OpenClaim.holds_of_wide 12 Try.f12 rfl rfl rfl rfl rfl rfl rfl ⟨rfl, rfl, rfl, rfl, rfl⟩ rfl rfl rfl rfl rfl (by kernel_rfl) Try.func12 (by kernel_rfl)
    (of_decide_eq_true (by kernel_rfl)) (by unfold Func.isWrapper; first | (rw [if_pos (by decide +kernel)]; kernel_rfl) | (rw [if_neg (by decide +kernel)]; exact ⟨rfl, rfl⟩))
    (fun os started H enc _ => FnExactSendPut_lifted os started H enc)
end Go.Proofs.Ytfjdmdjoebjciaa
