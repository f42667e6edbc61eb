/- FnExactTalkSend: for all arguments the program's TalkSend answers what the reference's answers, leaves its arguments as they were, and its result shares no memory. No condition. -/
import Derived.Test.YtjamcfnclnpdkabTalk7
import Derived.Test.YtjamcfnclnpdkabSaidB
namespace Go.Proofs.Ytjamcfnclnpdkab
open Go.ChangeShapes Go.WideShapes Go.ChangeAt Go.RowKit

set_option maxHeartbeats 4000000 in
set_option maxRecDepth 100000 in
theorem FnExactTalkSend_walk (n0 : Int) (t0 : Int) (a0 : Option Addr) (z0 : List Int) (cap0 : Nat) (a1 : Option Addr) (z1 : List Int) (cap1 : Nat) (w : World) (rz0 : Ints w a0 z0) (_lc0 : z0.length ≤ cap0) (lm0 : cap0 ≤ maxLen) (rz1 : Ints w a1 z1) (_lc1 : z1.length ≤ cap1) (_lm1 : cap1 ≤ maxLen) :
    Calls Try.prog 5 #[.agg #[.int .i64 n0, .int .i64 t0, .slice a0 z0.length cap0], .slice a1 z1.length cap1] w fun e w' => e = .returned (.bool true) ∧ Below w.heap.size w w' := by
  unfold maxLen at lm0
  by_cases hn1 : (z1.length : Int) ≤ 1048576
  case neg =>
    have hn1' : (1048576 : Int) < (z1.length : Int) := by omega
    go_enter Try.func5, Try.ntmps5
    go_wp2
    go_ret
    refine ⟨rfl, ?_⟩
    repeat' (first | exact Below.refl _ _ | exact Nat.le_refl _ | assumption | refine Below.drew ?_ | refine below_drewN ?_ _ | (refine Below.alloc ?_ (by first | exact Nat.le_refl _ | omega | (simp; done) | (simp; omega)) _) | (refine Below.setCell ?_ (by first | exact Nat.le_refl _ | omega | (simp; done) | (simp; omega)) _))
  by_cases hn0 : (z0.length : Int) ≤ 1048576
  case neg =>
    have hn0' : (1048576 : Int) < (z0.length : Int) := by omega
    go_enter Try.func5, Try.ntmps5
    go_wp2_with fail
    refine name_calls fun W1 hW1 => ?_
    have B2 : Below w.heap.size w W1 := by
      rw [hW1]
      repeat' (first | exact Below.refl _ _ | exact Nat.le_refl _ | assumption | refine Below.drew ?_ | refine below_drewN ?_ _ | (refine Below.alloc ?_ (by first | exact Nat.le_refl _ | omega | (simp; done) | (simp; omega)) _) | (refine Below.setCell ?_ (by first | exact Nat.le_refl _ | omega | (simp; done) | (simp; omega)) _))
    have H3 := Lib.hid (show W1.heap[w.heap.size]? = some (.cells #[.int .i64 n0, .int .i64 t0, .slice a0 z0.length cap0] 36 (0, 0)) by rw [hW1]; exact heap_new_at _ _ _ rfl)
    have zW1 : W1.heap.size = w.heap.size + 1 := by rw [hW1]; simp
    clear hW1
    refine (szTalk_no n0 t0 a0 _ cap0 1048576 W1 hn0' (by omega) (by omega)).mono ?_
    rintro e w5 ⟨rfl, b4⟩
    have zw5 := b4.size
    have B6 := B2.trans (b4.mono B2.size)
    clear B2
    replace H3 := Lib.hid ((b4.block _ (Array.getElem?_eq_some_iff.1 H3.out).1).trans H3.out)
    go_wp2
    go_ret
    exact ⟨rfl, B6⟩
  go_enter Try.func5, Try.ntmps5
  go_wp2_with fail
  refine name_calls fun W7 hW7 => ?_
  have B8 : Below w.heap.size w W7 := by
    rw [hW7]
    repeat' (first | exact Below.refl _ _ | exact Nat.le_refl _ | assumption | refine Below.drew ?_ | refine below_drewN ?_ _ | (refine Below.alloc ?_ (by first | exact Nat.le_refl _ | omega | (simp; done) | (simp; omega)) _) | (refine Below.setCell ?_ (by first | exact Nat.le_refl _ | omega | (simp; done) | (simp; omega)) _))
  have H9 := Lib.hid (show W7.heap[w.heap.size]? = some (.cells #[.int .i64 n0, .int .i64 t0, .slice a0 z0.length cap0] 36 (0, 0)) by rw [hW7]; exact heap_new_at _ _ _ rfl)
  have zW7 : W7.heap.size = w.heap.size + 1 := by rw [hW7]; simp
  clear hW7
  refine (szTalk_yes n0 t0 a0 _ cap0 1048576 W7 hn0 (by omega)).mono ?_
  rintro e w11 ⟨rfl, b10⟩
  have zw11 := b10.size
  have B12 := B8.trans (b10.mono B8.size)
  clear B8
  replace H9 := Lib.hid ((b10.block _ (Array.getElem?_eq_some_iff.1 H9.out).1).trans H9.out)
  have lr := sendR_len n0 t0 z0 z1
  have lr1 := lr.1
  have lr2 := lr.2
  clear lr
  obtain ⟨cc13, cc14, cc15⟩ := cells3 H9.out
  go_wp2_with fail
  clear cc13 cc14 cc15
  refine (toTalk_any n0 t0 a0 z0 cap0 w11 (rz0.below B12) (by omega)).mono ?_
  rintro e w20 ⟨a16, c17, rfl, o18, b19⟩
  have zw20 := b19.size
  have B21 := B12.trans (b19.mono B12.size)
  clear B12
  replace H9 := Lib.hid ((b19.block _ (Array.getElem?_eq_some_iff.1 H9.out).1).trans H9.out)
  have io18 := own_in o18
  go_wp2_with fail
  refine (toIntS_any a1 z1 cap1 w20 (rz1.below B21) (by omega)).mono ?_
  rintro e w26 ⟨a22, c23, rfl, o24, b25⟩
  have zw26 := b25.size
  have B27 := B21.trans (b25.mono B21.size)
  clear B21
  replace o18 := own_below o18 b25
  replace H9 := Lib.hid ((b25.block _ (Array.getElem?_eq_some_iff.1 H9.out).1).trans H9.out)
  have io24 := own_in o24
  go_wp2_with fail
  refine (specTalkSend_x n0 t0 a16 z0 c17 _ a22 z1 c23 _ w26 o18 (by omega) o24 (by omega)).mono ?_
  rintro e w36 ⟨a28, c29, a31, c32, rfl, o30, o33, ap34, b35⟩
  have zw36 := b35.size
  have B37 := B27.trans (b35.mono B27.size)
  clear B27
  replace o18 := own_below o18 b35
  replace o24 := own_below o24 b35
  replace H9 := Lib.hid ((b35.block _ (Array.getElem?_eq_some_iff.1 H9.out).1).trans H9.out)
  have io30 := own_in o30
  have io33 := own_in o33
  clear o18
  clear o24
  obtain ⟨cc38, cc39, cc40⟩ := cells3 H9.out
  have ll41 := (Array.getElem?_eq_some_iff.1 H9.out).1
  go_wp2_with fail
  clear cc38 cc39 cc40 ll41
  refine name_calls fun W47 hW47 => ?_
  have zW47 : W47.heap.size = w36.heap.size + 1 := by rw [hW47]; simp
  have H480 := heap_new_at w36 (.cells #[.int .i64 ((sendR n0 t0 z0 z1).k.n), .int .i64 ((sendR n0 t0 z0 z1).k.t), .slice a28 ((sendR n0 t0 z0 z1).k.b).length c29] 25 (0, 0)) _ rfl
  rw [← hW47] at H480
  have H48 := Lib.hid H480
  clear H480
  have B49 := B37.alloc B37.size (.cells #[.int .i64 ((sendR n0 t0 z0 z1).k.n), .int .i64 ((sendR n0 t0 z0 z1).k.t), .slice a28 ((sendR n0 t0 z0 z1).k.b).length c29] 25 (0, 0))
  rw [← hW47] at B49
  clear B37
  replace o30 := World.ownsRow.alloc o30 (.cells #[.int .i64 ((sendR n0 t0 z0 z1).k.n), .int .i64 ((sendR n0 t0 z0 z1).k.t), .slice a28 ((sendR n0 t0 z0 z1).k.b).length c29] 25 (0, 0))
  rw [← hW47] at o30
  replace o33 := World.ownsRow.alloc o33 (.cells #[.int .i64 ((sendR n0 t0 z0 z1).k.n), .int .i64 ((sendR n0 t0 z0 z1).k.t), .slice a28 ((sendR n0 t0 z0 z1).k.b).length c29] 25 (0, 0))
  rw [← hW47] at o33
  have H90 := (Below.heap_alloc w36 (.cells #[.int .i64 ((sendR n0 t0 z0 z1).k.n), .int .i64 ((sendR n0 t0 z0 z1).k.t), .slice a28 ((sendR n0 t0 z0 z1).k.b).length c29] 25 (0, 0)) _ (Array.getElem?_eq_some_iff.1 H9.out).1).trans H9.out
  rw [← hW47] at H90
  clear H9
  have H9 := Lib.hid H90
  clear H90
  clear hW47
  refine (toTalk_any n0 t0 a0 z0 cap0 W47 (rz0.below B49) (by omega)).mono ?_
  rintro e w46 ⟨a42, c43, rfl, o44, b45⟩
  have zw46 := b45.size
  have B50 := B49.trans (b45.mono B49.size)
  clear B49
  replace o30 := own_below o30 b45
  replace o33 := own_below o33 b45
  replace H9 := Lib.hid ((b45.block _ (Array.getElem?_eq_some_iff.1 H9.out).1).trans H9.out)
  replace H48 := Lib.hid ((b45.block _ (Array.getElem?_eq_some_iff.1 H48.out).1).trans H48.out)
  have io44 := own_in o44
  go_wp2_with fail
  refine name_calls fun W56 hW56 => ?_
  have zW56 : W56.heap.size = w46.heap.size + 1 := by rw [hW56]; simp
  have H570 := heap_new_at w46 (.cells #[.int .i64 n0, .int .i64 t0, .slice a42 z0.length c43] 25 (0, 0)) _ rfl
  rw [← hW56] at H570
  have H57 := Lib.hid H570
  clear H570
  have B58 := B50.alloc B50.size (.cells #[.int .i64 n0, .int .i64 t0, .slice a42 z0.length c43] 25 (0, 0))
  rw [← hW56] at B58
  clear B50
  replace o30 := World.ownsRow.alloc o30 (.cells #[.int .i64 n0, .int .i64 t0, .slice a42 z0.length c43] 25 (0, 0))
  rw [← hW56] at o30
  replace o33 := World.ownsRow.alloc o33 (.cells #[.int .i64 n0, .int .i64 t0, .slice a42 z0.length c43] 25 (0, 0))
  rw [← hW56] at o33
  replace o44 := World.ownsRow.alloc o44 (.cells #[.int .i64 n0, .int .i64 t0, .slice a42 z0.length c43] 25 (0, 0))
  rw [← hW56] at o44
  have H90 := (Below.heap_alloc w46 (.cells #[.int .i64 n0, .int .i64 t0, .slice a42 z0.length c43] 25 (0, 0)) _ (Array.getElem?_eq_some_iff.1 H9.out).1).trans H9.out
  rw [← hW56] at H90
  clear H9
  have H9 := Lib.hid H90
  clear H90
  have H480 := (Below.heap_alloc w46 (.cells #[.int .i64 n0, .int .i64 t0, .slice a42 z0.length c43] 25 (0, 0)) _ (Array.getElem?_eq_some_iff.1 H48.out).1).trans H48.out
  rw [← hW56] at H480
  clear H48
  have H48 := Lib.hid H480
  clear H480
  clear hW56
  refine (toIntS_any a1 z1 cap1 W56 (rz1.below B58) (by omega)).mono ?_
  rintro e w55 ⟨a51, c52, rfl, o53, b54⟩
  have zw55 := b54.size
  have B59 := B58.trans (b54.mono B58.size)
  clear B58
  replace o30 := own_below o30 b54
  replace o33 := own_below o33 b54
  replace o44 := own_below o44 b54
  replace H9 := Lib.hid ((b54.block _ (Array.getElem?_eq_some_iff.1 H9.out).1).trans H9.out)
  replace H48 := Lib.hid ((b54.block _ (Array.getElem?_eq_some_iff.1 H48.out).1).trans H48.out)
  replace H57 := Lib.hid ((b54.block _ (Array.getElem?_eq_some_iff.1 H57.out).1).trans H57.out)
  have io53 := own_in o53
  obtain ⟨cc60, cc61, cc62⟩ := cells3 H57.out
  go_wp2_with fail
  clear cc60 cc61 cc62
  refine (implTalkSend_x n0 t0 a42 z0 c43 _ a51 z1 c52 _ w55 o44 (by omega) o53 (by omega)).mono ?_
  rintro e w71 ⟨a63, c64, a66, c67, rfl, o65, o68, ap69, b70⟩
  have zw71 := b70.size
  have B72 := B59.trans (b70.mono B59.size)
  clear B59
  replace o30 := own_below o30 b70
  replace o33 := own_below o33 b70
  replace o44 := own_below o44 b70
  replace o53 := own_below o53 b70
  replace H9 := Lib.hid ((b70.block _ (Array.getElem?_eq_some_iff.1 H9.out).1).trans H9.out)
  replace H48 := Lib.hid ((b70.block _ (Array.getElem?_eq_some_iff.1 H48.out).1).trans H48.out)
  replace H57 := Lib.hid ((b70.block _ (Array.getElem?_eq_some_iff.1 H57.out).1).trans H57.out)
  have io65 := own_in o65
  have io68 := own_in o68
  obtain ⟨cc73, cc74, cc75⟩ := cells3 H48.out
  have ll76 := (Array.getElem?_eq_some_iff.1 H48.out).1
  go_wp2_with fail
  clear cc73 cc74 cc75 ll76
  refine name_calls fun W79 hW79 => ?_
  have zW79 : W79.heap.size = w71.heap.size + 1 := by rw [hW79]; simp
  have H800 := heap_new_at w71 (.cells #[.int .i64 ((sendR n0 t0 z0 z1).k.n), .int .i64 ((sendR n0 t0 z0 z1).k.t), .slice a63 ((sendR n0 t0 z0 z1).k.b).length c64] 25 (0, 0)) _ rfl
  rw [← hW79] at H800
  have H80 := Lib.hid H800
  clear H800
  have B81 := B72.alloc B72.size (.cells #[.int .i64 ((sendR n0 t0 z0 z1).k.n), .int .i64 ((sendR n0 t0 z0 z1).k.t), .slice a63 ((sendR n0 t0 z0 z1).k.b).length c64] 25 (0, 0))
  rw [← hW79] at B81
  clear B72
  replace o30 := World.ownsRow.alloc o30 (.cells #[.int .i64 ((sendR n0 t0 z0 z1).k.n), .int .i64 ((sendR n0 t0 z0 z1).k.t), .slice a63 ((sendR n0 t0 z0 z1).k.b).length c64] 25 (0, 0))
  rw [← hW79] at o30
  replace o33 := World.ownsRow.alloc o33 (.cells #[.int .i64 ((sendR n0 t0 z0 z1).k.n), .int .i64 ((sendR n0 t0 z0 z1).k.t), .slice a63 ((sendR n0 t0 z0 z1).k.b).length c64] 25 (0, 0))
  rw [← hW79] at o33
  replace o44 := World.ownsRow.alloc o44 (.cells #[.int .i64 ((sendR n0 t0 z0 z1).k.n), .int .i64 ((sendR n0 t0 z0 z1).k.t), .slice a63 ((sendR n0 t0 z0 z1).k.b).length c64] 25 (0, 0))
  rw [← hW79] at o44
  replace o53 := World.ownsRow.alloc o53 (.cells #[.int .i64 ((sendR n0 t0 z0 z1).k.n), .int .i64 ((sendR n0 t0 z0 z1).k.t), .slice a63 ((sendR n0 t0 z0 z1).k.b).length c64] 25 (0, 0))
  rw [← hW79] at o53
  replace o65 := World.ownsRow.alloc o65 (.cells #[.int .i64 ((sendR n0 t0 z0 z1).k.n), .int .i64 ((sendR n0 t0 z0 z1).k.t), .slice a63 ((sendR n0 t0 z0 z1).k.b).length c64] 25 (0, 0))
  rw [← hW79] at o65
  replace o68 := World.ownsRow.alloc o68 (.cells #[.int .i64 ((sendR n0 t0 z0 z1).k.n), .int .i64 ((sendR n0 t0 z0 z1).k.t), .slice a63 ((sendR n0 t0 z0 z1).k.b).length c64] 25 (0, 0))
  rw [← hW79] at o68
  have H90 := (Below.heap_alloc w71 (.cells #[.int .i64 ((sendR n0 t0 z0 z1).k.n), .int .i64 ((sendR n0 t0 z0 z1).k.t), .slice a63 ((sendR n0 t0 z0 z1).k.b).length c64] 25 (0, 0)) _ (Array.getElem?_eq_some_iff.1 H9.out).1).trans H9.out
  rw [← hW79] at H90
  clear H9
  have H9 := Lib.hid H90
  clear H90
  have H480 := (Below.heap_alloc w71 (.cells #[.int .i64 ((sendR n0 t0 z0 z1).k.n), .int .i64 ((sendR n0 t0 z0 z1).k.t), .slice a63 ((sendR n0 t0 z0 z1).k.b).length c64] 25 (0, 0)) _ (Array.getElem?_eq_some_iff.1 H48.out).1).trans H48.out
  rw [← hW79] at H480
  clear H48
  have H48 := Lib.hid H480
  clear H480
  have H570 := (Below.heap_alloc w71 (.cells #[.int .i64 ((sendR n0 t0 z0 z1).k.n), .int .i64 ((sendR n0 t0 z0 z1).k.t), .slice a63 ((sendR n0 t0 z0 z1).k.b).length c64] 25 (0, 0)) _ (Array.getElem?_eq_some_iff.1 H57.out).1).trans H57.out
  rw [← hW79] at H570
  clear H57
  have H57 := Lib.hid H570
  clear H570
  clear hW79
  refine (eqTalk_any ((sendR n0 t0 z0 z1).k.n) ((sendR n0 t0 z0 z1).k.t) ((sendR n0 t0 z0 z1).k.n) ((sendR n0 t0 z0 z1).k.t) a63 a28 ((sendR n0 t0 z0 z1).k.b) ((sendR n0 t0 z0 z1).k.b) c64 c29 W79 (own_cells o65) (own_cells o30) (by omega) (by omega)).mono ?_
  rintro e w78 ⟨rfl, b77⟩
  have zw78 := b77.size
  have B82 := B81.trans (b77.mono B81.size)
  clear B81
  replace o30 := own_below o30 b77
  replace o33 := own_below o33 b77
  replace o44 := own_below o44 b77
  replace o53 := own_below o53 b77
  replace o65 := own_below o65 b77
  replace o68 := own_below o68 b77
  replace H9 := Lib.hid ((b77.block _ (Array.getElem?_eq_some_iff.1 H9.out).1).trans H9.out)
  replace H48 := Lib.hid ((b77.block _ (Array.getElem?_eq_some_iff.1 H48.out).1).trans H48.out)
  replace H57 := Lib.hid ((b77.block _ (Array.getElem?_eq_some_iff.1 H57.out).1).trans H57.out)
  replace H80 := Lib.hid ((b77.block _ (Array.getElem?_eq_some_iff.1 H80.out).1).trans H80.out)
  go_wp2_with fail
  refine (eqIntS_below a66 a31 ((sendR n0 t0 z0 z1).p) ((sendR n0 t0 z0 z1).p) c67 c32 w78 (own_cells o68) (own_cells o33) (by omega) (by omega)).mono ?_
  rintro e w84 ⟨rfl, b83⟩
  have zw84 := b83.size
  have B85 := B82.trans (b83.mono B82.size)
  clear B82
  replace o30 := own_below o30 b83
  replace o33 := own_below o33 b83
  replace o44 := own_below o44 b83
  replace o53 := own_below o53 b83
  replace o65 := own_below o65 b83
  replace o68 := own_below o68 b83
  replace H9 := Lib.hid ((b83.block _ (Array.getElem?_eq_some_iff.1 H9.out).1).trans H9.out)
  replace H48 := Lib.hid ((b83.block _ (Array.getElem?_eq_some_iff.1 H48.out).1).trans H48.out)
  replace H57 := Lib.hid ((b83.block _ (Array.getElem?_eq_some_iff.1 H57.out).1).trans H57.out)
  replace H80 := Lib.hid ((b83.block _ (Array.getElem?_eq_some_iff.1 H80.out).1).trans H80.out)
  obtain ⟨cc86, cc87, cc88⟩ := cells3 H57.out
  obtain ⟨cc89, cc90, cc91⟩ := cells3 H9.out
  go_wp2_with fail
  go_region_held3 (fun v => v.cell? ⟨w46.heap.size, 0, none⟩ = some (.int .i64 n0) ∧ v.cell? ⟨w46.heap.size, 1, none⟩ = some (.int .i64 t0) ∧ v.cell? ⟨w46.heap.size, 2, none⟩ = some (.slice a42 z0.length c43) ∧ v.cell? ⟨w.heap.size, 0, none⟩ = some (.int .i64 n0) ∧ v.cell? ⟨w.heap.size, 1, none⟩ = some (.int .i64 t0) ∧ v.cell? ⟨w.heap.size, 2, none⟩ = some (.slice a0 z0.length cap0))
    (go_keep)
    (first
      | (go_at_call 17
         refine (toTalk_any n0 t0 a0 z0 cap0 _ (Cells.drew (rz0.below B85)) (by omega)).mono ?_
         rintro e w92 ⟨a94, c95, rfl, o96, b970⟩
         have b97 : Below w84.heap.size w84 w92 := (Below.refl _ w84).drew.trans b970
         have cc86A := Keeps.of_below b97 _ _ _ cc86
         have cc87A := Keeps.of_below b97 _ _ _ cc87
         have cc88A := Keeps.of_below b97 _ _ _ cc88
         have cc89A := Keeps.of_below b97 _ _ _ cc89
         have cc90A := Keeps.of_below b97 _ _ _ cc90
         have cc91A := Keeps.of_below b97 _ _ _ cc91
         skip)
      | (go_at_call 19
         refine (eqTalk_any n0 t0 n0 t0 a42 a94 z0 z0 c43 c95 _ (own_cells (own_below o44 b97)) (own_cells o96) (by omega) (by omega)).mono ?_
         rintro e w93 ⟨rfl, b98⟩
         have cc86B := Keeps.of_below b98 _ _ _ cc86A
         have cc87B := Keeps.of_below b98 _ _ _ cc87A
         have cc88B := Keeps.of_below b98 _ _ _ cc88A
         have cc89B := Keeps.of_below b98 _ _ _ cc89A
         have cc90B := Keeps.of_below b98 _ _ _ cc90A
         have cc91B := Keeps.of_below b98 _ _ _ cc91A
         skip))
  have b99 := below_join b97 b98
  clear cc86 cc86A cc86B cc87 cc87A cc87B cc88 cc88A cc88B cc89 cc89A cc89B cc90 cc90A cc90B cc91 cc91A cc91B o96
  have zw93 := b99.size
  have B100 := B85.trans (b99.mono B85.size)
  clear B85
  replace o30 := own_below o30 b99
  replace o33 := own_below o33 b99
  replace o44 := own_below o44 b99
  replace o53 := own_below o53 b99
  replace o65 := own_below o65 b99
  replace o68 := own_below o68 b99
  replace H9 := Lib.hid ((b99.block _ (Array.getElem?_eq_some_iff.1 H9.out).1).trans H9.out)
  replace H48 := Lib.hid ((b99.block _ (Array.getElem?_eq_some_iff.1 H48.out).1).trans H48.out)
  replace H57 := Lib.hid ((b99.block _ (Array.getElem?_eq_some_iff.1 H57.out).1).trans H57.out)
  replace H80 := Lib.hid ((b99.block _ (Array.getElem?_eq_some_iff.1 H80.out).1).trans H80.out)
  clear b97 b98 b970
  go_wp2_with fail
  refine (toIntS_any a1 z1 cap1 w93 (rz1.below B100) (by omega)).mono ?_
  rintro e w105 ⟨a101, c102, rfl, o103, b104⟩
  have zw105 := b104.size
  have B106 := B100.trans (b104.mono B100.size)
  clear B100
  replace o30 := own_below o30 b104
  replace o33 := own_below o33 b104
  replace o44 := own_below o44 b104
  replace o53 := own_below o53 b104
  replace o65 := own_below o65 b104
  replace o68 := own_below o68 b104
  replace H9 := Lib.hid ((b104.block _ (Array.getElem?_eq_some_iff.1 H9.out).1).trans H9.out)
  replace H48 := Lib.hid ((b104.block _ (Array.getElem?_eq_some_iff.1 H48.out).1).trans H48.out)
  replace H57 := Lib.hid ((b104.block _ (Array.getElem?_eq_some_iff.1 H57.out).1).trans H57.out)
  replace H80 := Lib.hid ((b104.block _ (Array.getElem?_eq_some_iff.1 H80.out).1).trans H80.out)
  have io103 := own_in o103
  go_wp2_with fail
  refine (eqIntS_below a51 a101 z1 z1 c52 c102 w105 (own_cells o53) (own_cells o103) (by omega) (by omega)).mono ?_
  rintro e w108 ⟨rfl, b107⟩
  have zw108 := b107.size
  have B109 := B106.trans (b107.mono B106.size)
  clear B106
  replace o30 := own_below o30 b107
  replace o33 := own_below o33 b107
  replace o44 := own_below o44 b107
  replace o53 := own_below o53 b107
  replace o65 := own_below o65 b107
  replace o68 := own_below o68 b107
  replace o103 := own_below o103 b107
  replace H9 := Lib.hid ((b107.block _ (Array.getElem?_eq_some_iff.1 H9.out).1).trans H9.out)
  replace H48 := Lib.hid ((b107.block _ (Array.getElem?_eq_some_iff.1 H48.out).1).trans H48.out)
  replace H57 := Lib.hid ((b107.block _ (Array.getElem?_eq_some_iff.1 H57.out).1).trans H57.out)
  replace H80 := Lib.hid ((b107.block _ (Array.getElem?_eq_some_iff.1 H80.out).1).trans H80.out)
  clear o103
  obtain ⟨cc110, cc111, cc112⟩ := cells3 H57.out
  go_wp2_with fail
  clear cc110 cc111 cc112
  refine (markTalk_any _ n0 t0 a42 _ c43 1 _ w108 o44 (by omega) (by omega)).mono ?_
  rintro e w113 ⟨rfl, o114, g115⟩
  have zw113 := g115.size
  have B116 := below_mark B109 io44 (by omega) B109.size g115
  clear B109
  replace o30 := own_apart o30 io30 io44 (by omega) g115
  replace o33 := own_apart o33 io33 io44 (by omega) g115
  replace o53 := own_apart o53 io53 io44 (by omega) g115
  replace o65 := own_apart o65 io65 io44 (by omega) g115
  replace o68 := own_apart o68 io68 io44 (by omega) g115
  replace H9 := Lib.hid (box_mark H9.out io44 (by omega) g115)
  replace H48 := Lib.hid (box_mark H48.out io44 (by omega) g115)
  replace H57 := Lib.hid (box_mark H57.out io44 (by omega) g115)
  replace H80 := Lib.hid (box_mark H80.out io44 (by omega) g115)
  clear o44 g115
  go_wp2_with fail
  refine (markIntS_any _ a51 _ c52 (1 + (z0.length : Int)) _ w113 o53 (by omega) (by omega)).mono ?_
  rintro e w117 ⟨rfl, o118, g119⟩
  have zw117 := g119.size
  have B120 := below_mark B116 io53 (by omega) B116.size g119
  clear B116
  replace o30 := own_apart o30 io30 io53 (by omega) g119
  replace o33 := own_apart o33 io33 io53 (by omega) g119
  replace o114 := own_apart o114 io44 io53 (by omega) g119
  replace o65 := own_apart o65 io65 io53 (by omega) g119
  replace o68 := own_apart o68 io68 io53 (by omega) g119
  replace H9 := Lib.hid (box_mark H9.out io53 (by omega) g119)
  replace H48 := Lib.hid (box_mark H48.out io53 (by omega) g119)
  replace H57 := Lib.hid (box_mark H57.out io53 (by omega) g119)
  replace H80 := Lib.hid (box_mark H80.out io53 (by omega) g119)
  clear o53 g119
  clear o114
  clear o118
  obtain ⟨cc121, cc122, cc123⟩ := cells3 H80.out
  obtain ⟨cc124, cc125, cc126⟩ := cells3 H48.out
  go_wp2_with fail
  clear cc121 cc122 cc123 cc124 cc125 cc126
  refine (eqTalk_any ((sendR n0 t0 z0 z1).k.n) ((sendR n0 t0 z0 z1).k.t) ((sendR n0 t0 z0 z1).k.n) ((sendR n0 t0 z0 z1).k.t) a63 a28 ((sendR n0 t0 z0 z1).k.b) ((sendR n0 t0 z0 z1).k.b) c64 c29 w117 (own_cells o65) (own_cells o30) (by omega) (by omega)).mono ?_
  rintro e w128 ⟨rfl, b127⟩
  have zw128 := b127.size
  have B129 := B120.trans (b127.mono B120.size)
  clear B120
  replace o30 := own_below o30 b127
  replace o33 := own_below o33 b127
  replace o65 := own_below o65 b127
  replace o68 := own_below o68 b127
  replace H9 := Lib.hid ((b127.block _ (Array.getElem?_eq_some_iff.1 H9.out).1).trans H9.out)
  replace H48 := Lib.hid ((b127.block _ (Array.getElem?_eq_some_iff.1 H48.out).1).trans H48.out)
  replace H57 := Lib.hid ((b127.block _ (Array.getElem?_eq_some_iff.1 H57.out).1).trans H57.out)
  replace H80 := Lib.hid ((b127.block _ (Array.getElem?_eq_some_iff.1 H80.out).1).trans H80.out)
  go_wp2_with fail
  refine (eqIntS_below a66 a31 ((sendR n0 t0 z0 z1).p) ((sendR n0 t0 z0 z1).p) c67 c32 w128 (own_cells o68) (own_cells o33) (by omega) (by omega)).mono ?_
  rintro e w131 ⟨rfl, b130⟩
  have zw131 := b130.size
  have B132 := B129.trans (b130.mono B129.size)
  clear B129
  replace o30 := own_below o30 b130
  replace o33 := own_below o33 b130
  replace o65 := own_below o65 b130
  replace o68 := own_below o68 b130
  replace H9 := Lib.hid ((b130.block _ (Array.getElem?_eq_some_iff.1 H9.out).1).trans H9.out)
  replace H48 := Lib.hid ((b130.block _ (Array.getElem?_eq_some_iff.1 H48.out).1).trans H48.out)
  replace H57 := Lib.hid ((b130.block _ (Array.getElem?_eq_some_iff.1 H57.out).1).trans H57.out)
  replace H80 := Lib.hid ((b130.block _ (Array.getElem?_eq_some_iff.1 H80.out).1).trans H80.out)
  obtain ⟨cc133, cc134, cc135⟩ := cells3 H80.out
  go_wp2_with fail
  clear cc133 cc134 cc135
  refine (markTalk_any _ ((sendR n0 t0 z0 z1).k.n) ((sendR n0 t0 z0 z1).k.t) a63 _ c64 1 _ w131 o65 (by omega) (by omega)).mono ?_
  rintro e w136 ⟨rfl, o137, g138⟩
  have zw136 := g138.size
  have B139 := below_mark B132 io65 (by omega) B132.size g138
  clear B132
  replace o30 := own_apart o30 io30 io65 (by omega) g138
  replace o33 := own_apart o33 io33 io65 (by omega) g138
  replace o68 := own_sep o68 ap69.symm g138
  replace H9 := Lib.hid (box_mark H9.out io65 (by omega) g138)
  replace H48 := Lib.hid (box_mark H48.out io65 (by omega) g138)
  replace H57 := Lib.hid (box_mark H57.out io65 (by omega) g138)
  replace H80 := Lib.hid (box_mark H80.out io65 (by omega) g138)
  clear o65 g138
  go_wp2_with fail
  refine (markIntS_any _ a66 _ c67 (1 + (((sendR n0 t0 z0 z1).k.b).length : Int)) _ w136 o68 (by omega) (by omega)).mono ?_
  rintro e w140 ⟨rfl, o141, g142⟩
  have zw140 := g142.size
  have B143 := below_mark B139 io68 (by omega) B139.size g142
  clear B139
  replace o30 := own_apart o30 io30 io68 (by omega) g142
  replace o33 := own_apart o33 io33 io68 (by omega) g142
  replace o137 := own_sep o137 ap69 g142
  replace H9 := Lib.hid (box_mark H9.out io68 (by omega) g142)
  replace H48 := Lib.hid (box_mark H48.out io68 (by omega) g142)
  replace H57 := Lib.hid (box_mark H57.out io68 (by omega) g142)
  replace H80 := Lib.hid (box_mark H80.out io68 (by omega) g142)
  clear o68 g142
  obtain ⟨cc144, cc145, cc146⟩ := cells3 H80.out
  go_wp2_with fail
  clear cc144 cc145 cc146
  refine (heldTalk_any ((sendR n0 t0 z0 z1).k.n) ((sendR n0 t0 z0 z1).k.t) a63 _ c64 1 w140 (own_cells o137) (by omega) (by omega)).mono ?_
  rintro e w148 ⟨rfl, b147⟩
  have zw148 := b147.size
  have B149 := B143.trans (b147.mono B143.size)
  clear B143
  replace o30 := own_below o30 b147
  replace o33 := own_below o33 b147
  replace o137 := own_below o137 b147
  replace o141 := own_below o141 b147
  replace H9 := Lib.hid ((b147.block _ (Array.getElem?_eq_some_iff.1 H9.out).1).trans H9.out)
  replace H48 := Lib.hid ((b147.block _ (Array.getElem?_eq_some_iff.1 H48.out).1).trans H48.out)
  replace H57 := Lib.hid ((b147.block _ (Array.getElem?_eq_some_iff.1 H57.out).1).trans H57.out)
  replace H80 := Lib.hid ((b147.block _ (Array.getElem?_eq_some_iff.1 H80.out).1).trans H80.out)
  go_wp2_with fail
  refine (heldIntS_below a66 _ c67 (1 + (((sendR n0 t0 z0 z1).k.b).length : Int)) w148 (own_cells o141) (by omega) (by omega)).mono ?_
  rintro e w151 ⟨rfl, b150⟩
  have zw151 := b150.size
  have B152 := B149.trans (b150.mono B149.size)
  clear B149
  replace o30 := own_below o30 b150
  replace o33 := own_below o33 b150
  replace o137 := own_below o137 b150
  replace o141 := own_below o141 b150
  replace H9 := Lib.hid ((b150.block _ (Array.getElem?_eq_some_iff.1 H9.out).1).trans H9.out)
  replace H48 := Lib.hid ((b150.block _ (Array.getElem?_eq_some_iff.1 H48.out).1).trans H48.out)
  replace H57 := Lib.hid ((b150.block _ (Array.getElem?_eq_some_iff.1 H57.out).1).trans H57.out)
  replace H80 := Lib.hid ((b150.block _ (Array.getElem?_eq_some_iff.1 H80.out).1).trans H80.out)
  obtain ⟨cc153, cc154, cc155⟩ := cells3 H9.out
  go_wp2_with fail
  clear cc153 cc154 cc155
  refine (toTalk_any n0 t0 a0 z0 cap0 w151 (rz0.below B152) (by omega)).mono ?_
  rintro e w160 ⟨a156, c157, rfl, o158, b159⟩
  have zw160 := b159.size
  have B161 := B152.trans (b159.mono B152.size)
  clear B152
  replace o30 := own_below o30 b159
  replace o33 := own_below o33 b159
  replace o137 := own_below o137 b159
  replace o141 := own_below o141 b159
  replace H9 := Lib.hid ((b159.block _ (Array.getElem?_eq_some_iff.1 H9.out).1).trans H9.out)
  replace H48 := Lib.hid ((b159.block _ (Array.getElem?_eq_some_iff.1 H48.out).1).trans H48.out)
  replace H57 := Lib.hid ((b159.block _ (Array.getElem?_eq_some_iff.1 H57.out).1).trans H57.out)
  replace H80 := Lib.hid ((b159.block _ (Array.getElem?_eq_some_iff.1 H80.out).1).trans H80.out)
  have io158 := own_in o158
  go_wp2_with fail
  refine (toIntS_any a1 z1 cap1 w160 (rz1.below B161) (by omega)).mono ?_
  rintro e w166 ⟨a162, c163, rfl, o164, b165⟩
  have zw166 := b165.size
  have B167 := B161.trans (b165.mono B161.size)
  clear B161
  replace o30 := own_below o30 b165
  replace o33 := own_below o33 b165
  replace o137 := own_below o137 b165
  replace o141 := own_below o141 b165
  replace o158 := own_below o158 b165
  replace H9 := Lib.hid ((b165.block _ (Array.getElem?_eq_some_iff.1 H9.out).1).trans H9.out)
  replace H48 := Lib.hid ((b165.block _ (Array.getElem?_eq_some_iff.1 H48.out).1).trans H48.out)
  replace H57 := Lib.hid ((b165.block _ (Array.getElem?_eq_some_iff.1 H57.out).1).trans H57.out)
  replace H80 := Lib.hid ((b165.block _ (Array.getElem?_eq_some_iff.1 H80.out).1).trans H80.out)
  have io164 := own_in o164
  go_wp2_with fail
  refine (implTalkSend_x n0 t0 a156 z0 c157 _ a162 z1 c163 _ w166 o158 (by omega) o164 (by omega)).mono ?_
  rintro e w176 ⟨a168, c169, a171, c172, rfl, o170, o173, ap174, b175⟩
  have zw176 := b175.size
  have B177 := B167.trans (b175.mono B167.size)
  clear B167
  replace o30 := own_below o30 b175
  replace o33 := own_below o33 b175
  replace o137 := own_below o137 b175
  replace o141 := own_below o141 b175
  replace o158 := own_below o158 b175
  replace o164 := own_below o164 b175
  replace H9 := Lib.hid ((b175.block _ (Array.getElem?_eq_some_iff.1 H9.out).1).trans H9.out)
  replace H48 := Lib.hid ((b175.block _ (Array.getElem?_eq_some_iff.1 H48.out).1).trans H48.out)
  replace H57 := Lib.hid ((b175.block _ (Array.getElem?_eq_some_iff.1 H57.out).1).trans H57.out)
  replace H80 := Lib.hid ((b175.block _ (Array.getElem?_eq_some_iff.1 H80.out).1).trans H80.out)
  have io170 := own_in o170
  have io173 := own_in o173
  clear o158
  clear o164
  obtain ⟨cc178, cc179, cc180⟩ := cells3 H48.out
  have ll181 := (Array.getElem?_eq_some_iff.1 H48.out).1
  go_wp2_with fail
  clear cc178 cc179 cc180 ll181
  refine name_calls fun W184 hW184 => ?_
  have zW184 : W184.heap.size = w176.heap.size + 1 := by rw [hW184]; simp
  have H1850 := heap_new_at w176 (.cells #[.int .i64 ((sendR n0 t0 z0 z1).k.n), .int .i64 ((sendR n0 t0 z0 z1).k.t), .slice a168 ((sendR n0 t0 z0 z1).k.b).length c169] 25 (0, 0)) _ rfl
  rw [← hW184] at H1850
  have H185 := Lib.hid H1850
  clear H1850
  have B186 := B177.alloc B177.size (.cells #[.int .i64 ((sendR n0 t0 z0 z1).k.n), .int .i64 ((sendR n0 t0 z0 z1).k.t), .slice a168 ((sendR n0 t0 z0 z1).k.b).length c169] 25 (0, 0))
  rw [← hW184] at B186
  clear B177
  replace o30 := World.ownsRow.alloc o30 (.cells #[.int .i64 ((sendR n0 t0 z0 z1).k.n), .int .i64 ((sendR n0 t0 z0 z1).k.t), .slice a168 ((sendR n0 t0 z0 z1).k.b).length c169] 25 (0, 0))
  rw [← hW184] at o30
  replace o33 := World.ownsRow.alloc o33 (.cells #[.int .i64 ((sendR n0 t0 z0 z1).k.n), .int .i64 ((sendR n0 t0 z0 z1).k.t), .slice a168 ((sendR n0 t0 z0 z1).k.b).length c169] 25 (0, 0))
  rw [← hW184] at o33
  replace o137 := World.ownsRow.alloc o137 (.cells #[.int .i64 ((sendR n0 t0 z0 z1).k.n), .int .i64 ((sendR n0 t0 z0 z1).k.t), .slice a168 ((sendR n0 t0 z0 z1).k.b).length c169] 25 (0, 0))
  rw [← hW184] at o137
  replace o141 := World.ownsRow.alloc o141 (.cells #[.int .i64 ((sendR n0 t0 z0 z1).k.n), .int .i64 ((sendR n0 t0 z0 z1).k.t), .slice a168 ((sendR n0 t0 z0 z1).k.b).length c169] 25 (0, 0))
  rw [← hW184] at o141
  replace o170 := World.ownsRow.alloc o170 (.cells #[.int .i64 ((sendR n0 t0 z0 z1).k.n), .int .i64 ((sendR n0 t0 z0 z1).k.t), .slice a168 ((sendR n0 t0 z0 z1).k.b).length c169] 25 (0, 0))
  rw [← hW184] at o170
  replace o173 := World.ownsRow.alloc o173 (.cells #[.int .i64 ((sendR n0 t0 z0 z1).k.n), .int .i64 ((sendR n0 t0 z0 z1).k.t), .slice a168 ((sendR n0 t0 z0 z1).k.b).length c169] 25 (0, 0))
  rw [← hW184] at o173
  have H90 := (Below.heap_alloc w176 (.cells #[.int .i64 ((sendR n0 t0 z0 z1).k.n), .int .i64 ((sendR n0 t0 z0 z1).k.t), .slice a168 ((sendR n0 t0 z0 z1).k.b).length c169] 25 (0, 0)) _ (Array.getElem?_eq_some_iff.1 H9.out).1).trans H9.out
  rw [← hW184] at H90
  clear H9
  have H9 := Lib.hid H90
  clear H90
  have H480 := (Below.heap_alloc w176 (.cells #[.int .i64 ((sendR n0 t0 z0 z1).k.n), .int .i64 ((sendR n0 t0 z0 z1).k.t), .slice a168 ((sendR n0 t0 z0 z1).k.b).length c169] 25 (0, 0)) _ (Array.getElem?_eq_some_iff.1 H48.out).1).trans H48.out
  rw [← hW184] at H480
  clear H48
  have H48 := Lib.hid H480
  clear H480
  have H570 := (Below.heap_alloc w176 (.cells #[.int .i64 ((sendR n0 t0 z0 z1).k.n), .int .i64 ((sendR n0 t0 z0 z1).k.t), .slice a168 ((sendR n0 t0 z0 z1).k.b).length c169] 25 (0, 0)) _ (Array.getElem?_eq_some_iff.1 H57.out).1).trans H57.out
  rw [← hW184] at H570
  clear H57
  have H57 := Lib.hid H570
  clear H570
  have H800 := (Below.heap_alloc w176 (.cells #[.int .i64 ((sendR n0 t0 z0 z1).k.n), .int .i64 ((sendR n0 t0 z0 z1).k.t), .slice a168 ((sendR n0 t0 z0 z1).k.b).length c169] 25 (0, 0)) _ (Array.getElem?_eq_some_iff.1 H80.out).1).trans H80.out
  rw [← hW184] at H800
  clear H80
  have H80 := Lib.hid H800
  clear H800
  clear hW184
  refine (eqTalk_any ((sendR n0 t0 z0 z1).k.n) ((sendR n0 t0 z0 z1).k.t) ((sendR n0 t0 z0 z1).k.n) ((sendR n0 t0 z0 z1).k.t) a168 a28 ((sendR n0 t0 z0 z1).k.b) ((sendR n0 t0 z0 z1).k.b) c169 c29 W184 (own_cells o170) (own_cells o30) (by omega) (by omega)).mono ?_
  rintro e w183 ⟨rfl, b182⟩
  have zw183 := b182.size
  have B187 := B186.trans (b182.mono B186.size)
  clear B186
  replace o30 := own_below o30 b182
  replace o33 := own_below o33 b182
  replace o137 := own_below o137 b182
  replace o141 := own_below o141 b182
  replace o170 := own_below o170 b182
  replace o173 := own_below o173 b182
  replace H9 := Lib.hid ((b182.block _ (Array.getElem?_eq_some_iff.1 H9.out).1).trans H9.out)
  replace H48 := Lib.hid ((b182.block _ (Array.getElem?_eq_some_iff.1 H48.out).1).trans H48.out)
  replace H57 := Lib.hid ((b182.block _ (Array.getElem?_eq_some_iff.1 H57.out).1).trans H57.out)
  replace H80 := Lib.hid ((b182.block _ (Array.getElem?_eq_some_iff.1 H80.out).1).trans H80.out)
  replace H185 := Lib.hid ((b182.block _ (Array.getElem?_eq_some_iff.1 H185.out).1).trans H185.out)
  go_wp2_with fail
  refine (eqIntS_below a171 a31 ((sendR n0 t0 z0 z1).p) ((sendR n0 t0 z0 z1).p) c172 c32 w183 (own_cells o173) (own_cells o33) (by omega) (by omega)).mono ?_
  rintro e w189 ⟨rfl, b188⟩
  have zw189 := b188.size
  have B190 := B187.trans (b188.mono B187.size)
  clear B187
  replace o30 := own_below o30 b188
  replace o33 := own_below o33 b188
  replace o137 := own_below o137 b188
  replace o141 := own_below o141 b188
  replace o170 := own_below o170 b188
  replace o173 := own_below o173 b188
  replace H9 := Lib.hid ((b188.block _ (Array.getElem?_eq_some_iff.1 H9.out).1).trans H9.out)
  replace H48 := Lib.hid ((b188.block _ (Array.getElem?_eq_some_iff.1 H48.out).1).trans H48.out)
  replace H57 := Lib.hid ((b188.block _ (Array.getElem?_eq_some_iff.1 H57.out).1).trans H57.out)
  replace H80 := Lib.hid ((b188.block _ (Array.getElem?_eq_some_iff.1 H80.out).1).trans H80.out)
  replace H185 := Lib.hid ((b188.block _ (Array.getElem?_eq_some_iff.1 H185.out).1).trans H185.out)
  clear o170
  clear o173
  obtain ⟨cc191, cc192, cc193⟩ := cells3 H80.out
  go_wp2_with fail
  clear cc191 cc192 cc193
  refine (heldTalk_any ((sendR n0 t0 z0 z1).k.n) ((sendR n0 t0 z0 z1).k.t) a63 _ c64 1 w189 (own_cells o137) (by omega) (by omega)).mono ?_
  rintro e w195 ⟨rfl, b194⟩
  have zw195 := b194.size
  have B196 := B190.trans (b194.mono B190.size)
  clear B190
  replace o30 := own_below o30 b194
  replace o33 := own_below o33 b194
  replace o137 := own_below o137 b194
  replace o141 := own_below o141 b194
  replace H9 := Lib.hid ((b194.block _ (Array.getElem?_eq_some_iff.1 H9.out).1).trans H9.out)
  replace H48 := Lib.hid ((b194.block _ (Array.getElem?_eq_some_iff.1 H48.out).1).trans H48.out)
  replace H57 := Lib.hid ((b194.block _ (Array.getElem?_eq_some_iff.1 H57.out).1).trans H57.out)
  replace H80 := Lib.hid ((b194.block _ (Array.getElem?_eq_some_iff.1 H80.out).1).trans H80.out)
  replace H185 := Lib.hid ((b194.block _ (Array.getElem?_eq_some_iff.1 H185.out).1).trans H185.out)
  go_wp2_with fail
  refine (heldIntS_below a66 _ c67 (1 + (((sendR n0 t0 z0 z1).k.b).length : Int)) w195 (own_cells o141) (by omega) (by omega)).mono ?_
  rintro e w198 ⟨rfl, b197⟩
  have zw198 := b197.size
  have B199 := B196.trans (b197.mono B196.size)
  clear B196
  replace o30 := own_below o30 b197
  replace o33 := own_below o33 b197
  replace o137 := own_below o137 b197
  replace o141 := own_below o141 b197
  replace H9 := Lib.hid ((b197.block _ (Array.getElem?_eq_some_iff.1 H9.out).1).trans H9.out)
  replace H48 := Lib.hid ((b197.block _ (Array.getElem?_eq_some_iff.1 H48.out).1).trans H48.out)
  replace H57 := Lib.hid ((b197.block _ (Array.getElem?_eq_some_iff.1 H57.out).1).trans H57.out)
  replace H80 := Lib.hid ((b197.block _ (Array.getElem?_eq_some_iff.1 H80.out).1).trans H80.out)
  replace H185 := Lib.hid ((b197.block _ (Array.getElem?_eq_some_iff.1 H185.out).1).trans H185.out)
  go_wp2
  go_ret
  exact ⟨rfl, B199⟩

set_option linter.unusedVariables false in
set_option maxRecDepth 100000 in
theorem FnExactTalkSend_lifted (os : Os) (started : os.Started) (H : Type) (enc : TypeId × Value → H) :
    ReturnsInHanded {} Try.checked os 5 .any (Rows.fnExactTalkSendSpec.pre6 enc Try.prog Try.f5 Rows.fnExactTalkSendRow.domain false) (Rows.fnExactTalkSendSpec.post enc Try.prog Try.f5 false true false false) := by
  refine returnsInHanded_of_change (C := Try.checked) own_knob started (by kernel_rfl) Try.func5
    (ChangeSpec.witness6 (enc := enc) (C := Try.checked) false ⟨#[], #[.agg #[.int .i64 0, .int .i64 0, .slice none 0 0], .slice none 0 0], []⟩ 8 (by kernel_rfl) (by kernel_rfl) (by kernel_rfl) (by kernel_rfl)) ?_
  intro W base args ds gs before hval0 hW hcnd _
  have hval : ∀ (j : Nat) t v, Try.f5.params[j]? = some t → args[j]? = some v → Value.okWide Try.prog W .any base t v := hval0
  have hW' := hW
  obtain ⟨p, q, hA0, hV, rfl, hfz, hnd⟩ := hW
  have hA : DataW.TrodAll enc Try.prog W 0 (fun _ => true) true Try.f5.params.toList args.toList ds p := hA0
  rw [Try.params5] at hA hval
  obtain ⟨v0, vs0, d0, ds0, p0, q0, hargs, rfl, rfl, h0, r0⟩ := trodAll_cons hA
  obtain ⟨v1, vs1, d1, ds1, p1, q1, rfl, rfl, rfl, h1, r1⟩ := trodAll_cons r0
  obtain ⟨rfl, rfl, rfl⟩ := trodAll_nil r1
  obtain rfl : args = #[v0, v1] := by cases args; simp_all
  obtain ⟨rfl, rfl⟩ := trodVars_none hV
  have k0 := h0
  have lt0 : ∀ x ∈ p0, x.block < W.heap.size := by obtain ⟨m, hm⟩ := k0; exact DataW.trod_lt m _ _ _ hm
  obtain ⟨n0, t0, a0, cap0, z0, rfl, lc0, lm0, rz0⟩ := rd_talk (hval 0 36 v0 rfl rfl) h0
  have k1 := h1
  have lt1 : ∀ x ∈ p1, x.block < W.heap.size := by obtain ⟨m, hm⟩ := k1; exact DataW.trod_lt m _ _ _ hm
  obtain ⟨a1, len1, cap1, rfl⟩ := okWide_slice Try.underlying23 (hval 1 23 v1 rfl rfl)
  obtain ⟨z1, rfl, lc1, lm1, rz1⟩ : ∃ z : List Int, len1 = z.length ∧ z.length ≤ cap1 ∧ cap1 ≤ maxLen ∧ Ints W a1 z := by
    obtain ⟨fuel, hf⟩ := h1
    obtain ⟨ao, cap, z, e, h1, h2, h3⟩ := rd_ints Try.underlying23 Try.underlying3 (by kernel_rfl) hf
    simp [Value.cells] at e
    obtain ⟨rfl, rfl, rfl⟩ := e
    exact ⟨z, rfl, h1, h2, h3⟩
  have lb1 : z1.length ≤ cap1 := lc1
  clear hA0 hval0
  refine (FnExactTalkSend_walk n0 t0 a0 z0 cap0 a1 z1 cap1 W rz0 lc0 lm0 rz1 lc1 lm1).mono fun e W' ⟨he, bel⟩ => ?_
  subst he
  exact ⟨_, rfl, _, _, _, [], _, [], hW', trodAll_mk1 (shut_bool Try.underlying4 _), (trodAll_cons_mk (Below.trod laid_out (by kernel_rfl) (of_decide_eq_true (by kernel_rfl)) k0 bel lt0) (trodAll_cons_mk (Below.trod laid_out (by kernel_rfl) (of_decide_eq_true (by kernel_rfl)) k1 bel lt1) trodAll_mk0)), rfl, bel.frame _, fun h => by cases h⟩

theorem FnExactTalkSend_holds : Rows.FnExactTalkSendSaid :=
  OpenClaim.holds_of_wide 5 Try.f5 rfl rfl rfl rfl rfl rfl rfl ⟨rfl, rfl, rfl, rfl, rfl⟩ rfl rfl rfl rfl rfl (by kernel_rfl) Try.func5 (by kernel_rfl)
    (of_decide_eq_true (by kernel_rfl)) (by unfold Func.isWrapper; first | (rw [if_pos (by decide +kernel)]; kernel_rfl) | (rw [if_neg (by decide +kernel)]; exact ⟨rfl, rfl⟩))
    (fun os started H enc _ => FnExactTalkSend_lifted os started H enc)
end Go.Proofs.Ytjamcfnclnpdkab
