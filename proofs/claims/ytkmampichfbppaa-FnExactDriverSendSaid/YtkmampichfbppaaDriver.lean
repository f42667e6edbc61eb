/- Drivers: who is valid. -/
import Derived.Test.YtkmampichfbppaaPort
namespace Go.Proofs.Ytkmampichfbppaa
open Go.RowKit

theorem ringValid_any (ao : Option Addr) (xs : List Int) (c : Nat) (w : World) (hx : Ints w ao xs) (lx : xs.length ≤ 1048576) :
    Calls Try.prog 51 #[.slice ao xs.length c] w fun e w' => e = .returned (.bool (ringB xs)) ∧ Below w.heap.size w w' := by
  by_cases h : (xs.length : Int) ≤ 32
  · have HF : Hid (ringB xs = bytesB xs) := Lib.hid (by simp only [ringB, decide_eq_true h, Bool.true_and])
    go_enter Try.func51, Try.ntmps51
    go_wp2_with fail
    refine (allBytes_any ao xs c w hx (by omega)).mono ?_
    rintro e w1 ⟨rfl, b1⟩
    go_wp2
    go_ret
    exact ⟨ret_bool HF.out.symm, b1⟩
  · have HF : Hid (ringB xs = false) := Lib.hid (by simp only [ringB, decide_eq_false h, Bool.false_and])
    have hd : decide ((xs.length : Int) ≤ 32) = false := by simpa using h
    have hn : (32 : Int) < (xs.length : Int) := by omega
    clear h
    go_enter Try.func51, Try.ntmps51
    go_wp2
    go_ret
    exact ⟨ret_bool HF.out.symm, Below.refl _ _⟩
theorem countValid_any (n : Int) (w : World) : Calls Try.prog 52 #[.int .i64 n] w fun e w' => e = .returned (.bool (inB n 0 999)) ∧ w = w' := by
  by_cases h : 0 ≤ n
  · go_enter Try.func52, Try.ntmps52
    go_wp2
    go_ret
    exact ⟨ret_bool (by simp [inB, h]), rfl⟩
  · have hd : decide (0 ≤ n) = false := by simpa using h
    have hn : n < 0 := by omega
    go_enter Try.func52, Try.ntmps52
    go_wp2
    go_ret
    exact ⟨ret_bool (by simp [inB]; omega), rfl⟩
def DrvL (d : DrvD) : Prop := d.p.gs.length ≤ 1048576 ∧ d.p.ys.length ≤ 1048576 ∧ d.i.length ≤ 1048576 ∧ d.o.length ≤ 1048576
set_option maxHeartbeats 2000000 in
set_option maxRecDepth 100000 in
theorem implDriverValid_any (d : DrvD) (A : DrvA) (w : World) (hm : DrvM w d A) (hl : DrvL d) :
    Calls Try.prog 27 #[.agg (drvC d A)] w fun e w' => e = .returned (.bool (drvB d)) ∧ Below w.heap.size w w' := by
  have b0 : Below w.heap.size w (w.alloc (.cells (drvC d A) 46)) := (Below.refl _ _).alloc (Nat.le_refl _) _
  have H0 := heap_new_at w (.cells (drvC d A) 46) _ rfl
  have hm0 := hm.below b0
  cases h1 : portB d.p
  · have HF : Hid (drvB d = false) := Lib.hid (by simp [drvB, h1])
    go_enter Try.func27, Try.ntmps27
    go_wp2_with (first
      | (refine wpList_load_box _ rfl (by rfl) (b := w.heap.size) (off := 0) (n := 18) rfl H0 Try.underlying44 (by kernel_rfl) (Nat.le_of_ble_eq_true rfl) (portC d.p A.p) rfl ?_))
    refine (implPortValid_any d.p A.p _ hm0.1 hl.1 hl.2.1).mono ?_
    rintro e w1 ⟨rfl, b1⟩
    have H1 := (b1.block _ (by simp)).trans H0
    have B1 := below_join b0 b1
    have c18 := box_cell H1 18 (v := .slice A.ai d.i.length A.ci) rfl
    have c19 := box_cell H1 19 (v := .slice A.ao d.o.length A.co) rfl
    have c20 := box_cell H1 20 (v := .int .i64 d.wr) rfl
    have c21 := box_cell H1 21 (v := .int .i64 d.lo) rfl
    have hm1 := hm0.below b1
    go_wp2
    go_ret
    exact ⟨ret_bool HF.out.symm, B1⟩
  cases h2 : ringB d.i
  · have HF : Hid (drvB d = false) := Lib.hid (by simp [drvB, h2])
    go_enter Try.func27, Try.ntmps27
    go_wp2_with (first
      | (refine wpList_load_box _ rfl (by rfl) (b := w.heap.size) (off := 0) (n := 18) rfl H0 Try.underlying44 (by kernel_rfl) (Nat.le_of_ble_eq_true rfl) (portC d.p A.p) rfl ?_))
    refine (implPortValid_any d.p A.p _ hm0.1 hl.1 hl.2.1).mono ?_
    rintro e w1 ⟨rfl, b1⟩
    have H1 := (b1.block _ (by simp)).trans H0
    have B1 := below_join b0 b1
    have c18 := box_cell H1 18 (v := .slice A.ai d.i.length A.ci) rfl
    have c19 := box_cell H1 19 (v := .slice A.ao d.o.length A.co) rfl
    have c20 := box_cell H1 20 (v := .int .i64 d.wr) rfl
    have c21 := box_cell H1 21 (v := .int .i64 d.lo) rfl
    have hm1 := hm0.below b1
    go_wp2_with fail
    refine (ringValid_any A.ai d.i A.ci w1 hm1.2.1 hl.2.2.1).mono ?_
    rintro e w2 ⟨rfl, b2⟩
    have B2 := below_join B1 b2
    go_wp2
    go_ret
    exact ⟨ret_bool HF.out.symm, B2⟩
  cases h3 : ringB d.o
  · have HF : Hid (drvB d = false) := Lib.hid (by simp [drvB, h3])
    go_enter Try.func27, Try.ntmps27
    go_wp2_with (first
      | (refine wpList_load_box _ rfl (by rfl) (b := w.heap.size) (off := 0) (n := 18) rfl H0 Try.underlying44 (by kernel_rfl) (Nat.le_of_ble_eq_true rfl) (portC d.p A.p) rfl ?_))
    refine (implPortValid_any d.p A.p _ hm0.1 hl.1 hl.2.1).mono ?_
    rintro e w1 ⟨rfl, b1⟩
    have H1 := (b1.block _ (by simp)).trans H0
    have B1 := below_join b0 b1
    have c18 := box_cell H1 18 (v := .slice A.ai d.i.length A.ci) rfl
    have c19 := box_cell H1 19 (v := .slice A.ao d.o.length A.co) rfl
    have c20 := box_cell H1 20 (v := .int .i64 d.wr) rfl
    have c21 := box_cell H1 21 (v := .int .i64 d.lo) rfl
    have hm1 := hm0.below b1
    go_wp2_with fail
    refine (ringValid_any A.ai d.i A.ci w1 hm1.2.1 hl.2.2.1).mono ?_
    rintro e w2 ⟨rfl, b2⟩
    have B2 := below_join B1 b2
    have hm2 := hm1.below b2
    have H2 := (b2.block _ (box_lt H1)).trans H1
    clear c18 c19 c20 c21
    have c18 := box_cell H2 18 (v := .slice A.ai d.i.length A.ci) rfl
    have c19 := box_cell H2 19 (v := .slice A.ao d.o.length A.co) rfl
    have c20 := box_cell H2 20 (v := .int .i64 d.wr) rfl
    have c21 := box_cell H2 21 (v := .int .i64 d.lo) rfl
    go_wp2_with fail
    refine (ringValid_any A.ao d.o A.co w2 hm2.2.2 hl.2.2.2).mono ?_
    rintro e w3 ⟨rfl, b3⟩
    have B3 := below_join B2 b3
    go_wp2
    go_ret
    exact ⟨ret_bool HF.out.symm, B3⟩
  cases h4 : inB d.wr 0 999
  · have HF : Hid (drvB d = false) := Lib.hid (by simp [drvB, h4])
    go_enter Try.func27, Try.ntmps27
    go_wp2_with (first
      | (refine wpList_load_box _ rfl (by rfl) (b := w.heap.size) (off := 0) (n := 18) rfl H0 Try.underlying44 (by kernel_rfl) (Nat.le_of_ble_eq_true rfl) (portC d.p A.p) rfl ?_))
    refine (implPortValid_any d.p A.p _ hm0.1 hl.1 hl.2.1).mono ?_
    rintro e w1 ⟨rfl, b1⟩
    have H1 := (b1.block _ (by simp)).trans H0
    have B1 := below_join b0 b1
    have c18 := box_cell H1 18 (v := .slice A.ai d.i.length A.ci) rfl
    have c19 := box_cell H1 19 (v := .slice A.ao d.o.length A.co) rfl
    have c20 := box_cell H1 20 (v := .int .i64 d.wr) rfl
    have c21 := box_cell H1 21 (v := .int .i64 d.lo) rfl
    have hm1 := hm0.below b1
    go_wp2_with fail
    refine (ringValid_any A.ai d.i A.ci w1 hm1.2.1 hl.2.2.1).mono ?_
    rintro e w2 ⟨rfl, b2⟩
    have B2 := below_join B1 b2
    have hm2 := hm1.below b2
    have H2 := (b2.block _ (box_lt H1)).trans H1
    clear c18 c19 c20 c21
    have c18 := box_cell H2 18 (v := .slice A.ai d.i.length A.ci) rfl
    have c19 := box_cell H2 19 (v := .slice A.ao d.o.length A.co) rfl
    have c20 := box_cell H2 20 (v := .int .i64 d.wr) rfl
    have c21 := box_cell H2 21 (v := .int .i64 d.lo) rfl
    go_wp2_with fail
    refine (ringValid_any A.ao d.o A.co w2 hm2.2.2 hl.2.2.2).mono ?_
    rintro e w3 ⟨rfl, b3⟩
    have B3 := below_join B2 b3
    have H3 := (b3.block _ (box_lt H2)).trans H2
    clear c18 c19 c20 c21
    have c18 := box_cell H3 18 (v := .slice A.ai d.i.length A.ci) rfl
    have c19 := box_cell H3 19 (v := .slice A.ao d.o.length A.co) rfl
    have c20 := box_cell H3 20 (v := .int .i64 d.wr) rfl
    have c21 := box_cell H3 21 (v := .int .i64 d.lo) rfl
    go_wp2_with fail
    refine (countValid_any d.wr w3).mono ?_
    rintro e w4 ⟨rfl, rfl⟩
    go_wp2
    go_ret
    exact ⟨ret_bool HF.out.symm, B3⟩
  · have HF : Hid (drvB d = inB d.lo 0 999) := Lib.hid (by simp [drvB, h1, h2, h3, h4])
    go_enter Try.func27, Try.ntmps27
    go_wp2_with (first
      | (refine wpList_load_box _ rfl (by rfl) (b := w.heap.size) (off := 0) (n := 18) rfl H0 Try.underlying44 (by kernel_rfl) (Nat.le_of_ble_eq_true rfl) (portC d.p A.p) rfl ?_))
    refine (implPortValid_any d.p A.p _ hm0.1 hl.1 hl.2.1).mono ?_
    rintro e w1 ⟨rfl, b1⟩
    have H1 := (b1.block _ (by simp)).trans H0
    have B1 := below_join b0 b1
    have c18 := box_cell H1 18 (v := .slice A.ai d.i.length A.ci) rfl
    have c19 := box_cell H1 19 (v := .slice A.ao d.o.length A.co) rfl
    have c20 := box_cell H1 20 (v := .int .i64 d.wr) rfl
    have c21 := box_cell H1 21 (v := .int .i64 d.lo) rfl
    have hm1 := hm0.below b1
    go_wp2_with fail
    refine (ringValid_any A.ai d.i A.ci w1 hm1.2.1 hl.2.2.1).mono ?_
    rintro e w2 ⟨rfl, b2⟩
    have B2 := below_join B1 b2
    have hm2 := hm1.below b2
    have H2 := (b2.block _ (box_lt H1)).trans H1
    clear c18 c19 c20 c21
    have c18 := box_cell H2 18 (v := .slice A.ai d.i.length A.ci) rfl
    have c19 := box_cell H2 19 (v := .slice A.ao d.o.length A.co) rfl
    have c20 := box_cell H2 20 (v := .int .i64 d.wr) rfl
    have c21 := box_cell H2 21 (v := .int .i64 d.lo) rfl
    go_wp2_with fail
    refine (ringValid_any A.ao d.o A.co w2 hm2.2.2 hl.2.2.2).mono ?_
    rintro e w3 ⟨rfl, b3⟩
    have B3 := below_join B2 b3
    have H3 := (b3.block _ (box_lt H2)).trans H2
    clear c18 c19 c20 c21
    have c18 := box_cell H3 18 (v := .slice A.ai d.i.length A.ci) rfl
    have c19 := box_cell H3 19 (v := .slice A.ao d.o.length A.co) rfl
    have c20 := box_cell H3 20 (v := .int .i64 d.wr) rfl
    have c21 := box_cell H3 21 (v := .int .i64 d.lo) rfl
    go_wp2_with fail
    refine (countValid_any d.wr w3).mono ?_
    rintro e w4 ⟨rfl, rfl⟩
    go_wp2_with fail
    refine (countValid_any d.lo w3).mono ?_
    rintro e w4 ⟨rfl, rfl⟩
    go_wp2
    go_ret
    exact ⟨ret_bool HF.out.symm, B3⟩
set_option maxHeartbeats 2000000 in
set_option maxRecDepth 100000 in
theorem specDriverValid_any (d : DrvD) (A : DrvA) (w : World) (hm : DrvM w d A) (hl : DrvL d) :
    Calls Try.prog 35 #[.agg (drvC d A)] w fun e w' => e = .returned (.bool (drvB d)) ∧ Below w.heap.size w w' := by
  have b0 : Below w.heap.size w (w.alloc (.cells (drvC d A) 46)) := (Below.refl _ _).alloc (Nat.le_refl _) _
  have H0 := heap_new_at w (.cells (drvC d A) 46) _ rfl
  have hm0 := hm.below b0
  cases h1 : portB d.p
  · have HF : Hid (drvB d = false) := Lib.hid (by simp [drvB, h1])
    go_enter Try.func35, Try.ntmps35
    go_wp2_with (first
      | (refine wpList_load_box _ rfl (by rfl) (b := w.heap.size) (off := 0) (n := 18) rfl H0 Try.underlying44 (by kernel_rfl) (Nat.le_of_ble_eq_true rfl) (portC d.p A.p) rfl ?_))
    refine (specPortValid_any d.p A.p _ hm0.1 hl.1 hl.2.1).mono ?_
    rintro e w1 ⟨rfl, b1⟩
    have H1 := (b1.block _ (by simp)).trans H0
    have B1 := below_join b0 b1
    have c18 := box_cell H1 18 (v := .slice A.ai d.i.length A.ci) rfl
    have c19 := box_cell H1 19 (v := .slice A.ao d.o.length A.co) rfl
    have c20 := box_cell H1 20 (v := .int .i64 d.wr) rfl
    have c21 := box_cell H1 21 (v := .int .i64 d.lo) rfl
    have hm1 := hm0.below b1
    go_wp2
    go_ret
    exact ⟨ret_bool HF.out.symm, B1⟩
  cases h2 : bytesB d.i
  · have HF : Hid (drvB d = false) := Lib.hid (by simp [drvB, ringB, h2])
    go_enter Try.func35, Try.ntmps35
    go_wp2_with (first
      | (refine wpList_load_box _ rfl (by rfl) (b := w.heap.size) (off := 0) (n := 18) rfl H0 Try.underlying44 (by kernel_rfl) (Nat.le_of_ble_eq_true rfl) (portC d.p A.p) rfl ?_))
    refine (specPortValid_any d.p A.p _ hm0.1 hl.1 hl.2.1).mono ?_
    rintro e w1 ⟨rfl, b1⟩
    have H1 := (b1.block _ (by simp)).trans H0
    have B1 := below_join b0 b1
    have c18 := box_cell H1 18 (v := .slice A.ai d.i.length A.ci) rfl
    have c19 := box_cell H1 19 (v := .slice A.ao d.o.length A.co) rfl
    have c20 := box_cell H1 20 (v := .int .i64 d.wr) rfl
    have c21 := box_cell H1 21 (v := .int .i64 d.lo) rfl
    have hm1 := hm0.below b1
    go_wp2_with fail
    refine (l4Bytes_any A.ai d.i A.ci w1 hm1.2.1 (by have := hl.2.2.1; omega)).mono ?_
    rintro e w2 ⟨rfl, b2⟩
    have B2 := below_join B1 b2
    go_wp2
    go_ret
    exact ⟨ret_bool HF.out.symm, B2⟩
  cases h3 : bytesB d.o
  · have HF : Hid (drvB d = false) := Lib.hid (by simp [drvB, ringB, h3])
    go_enter Try.func35, Try.ntmps35
    go_wp2_with (first
      | (refine wpList_load_box _ rfl (by rfl) (b := w.heap.size) (off := 0) (n := 18) rfl H0 Try.underlying44 (by kernel_rfl) (Nat.le_of_ble_eq_true rfl) (portC d.p A.p) rfl ?_))
    refine (specPortValid_any d.p A.p _ hm0.1 hl.1 hl.2.1).mono ?_
    rintro e w1 ⟨rfl, b1⟩
    have H1 := (b1.block _ (by simp)).trans H0
    have B1 := below_join b0 b1
    have c18 := box_cell H1 18 (v := .slice A.ai d.i.length A.ci) rfl
    have c19 := box_cell H1 19 (v := .slice A.ao d.o.length A.co) rfl
    have c20 := box_cell H1 20 (v := .int .i64 d.wr) rfl
    have c21 := box_cell H1 21 (v := .int .i64 d.lo) rfl
    have hm1 := hm0.below b1
    go_wp2_with fail
    refine (l4Bytes_any A.ai d.i A.ci w1 hm1.2.1 (by have := hl.2.2.1; omega)).mono ?_
    rintro e w2 ⟨rfl, b2⟩
    have B2 := below_join B1 b2
    have hm2 := hm1.below b2
    have H2 := (b2.block _ (box_lt H1)).trans H1
    clear c18 c19 c20 c21
    have c18 := box_cell H2 18 (v := .slice A.ai d.i.length A.ci) rfl
    have c19 := box_cell H2 19 (v := .slice A.ao d.o.length A.co) rfl
    have c20 := box_cell H2 20 (v := .int .i64 d.wr) rfl
    have c21 := box_cell H2 21 (v := .int .i64 d.lo) rfl
    go_wp2_with fail
    refine (l4Bytes_any A.ao d.o A.co w2 hm2.2.2 (by have := hl.2.2.2; omega)).mono ?_
    rintro e w3 ⟨rfl, b3⟩
    have B3 := below_join B2 b3
    go_wp2
    go_ret
    exact ⟨ret_bool HF.out.symm, B3⟩
  by_cases h5 : (32 : Int) < (d.i.length : Int)
  · have HF : Hid (drvB d = false) := Lib.hid (by simp only [drvB, ringB, decide_eq_false (show ¬ (d.i.length : Int) ≤ 32 by omega), Bool.false_and, Bool.and_false])
    go_enter Try.func35, Try.ntmps35
    go_wp2_with (first
      | (refine wpList_load_box _ rfl (by rfl) (b := w.heap.size) (off := 0) (n := 18) rfl H0 Try.underlying44 (by kernel_rfl) (Nat.le_of_ble_eq_true rfl) (portC d.p A.p) rfl ?_))
    refine (specPortValid_any d.p A.p _ hm0.1 hl.1 hl.2.1).mono ?_
    rintro e w1 ⟨rfl, b1⟩
    have H1 := (b1.block _ (by simp)).trans H0
    have B1 := below_join b0 b1
    have c18 := box_cell H1 18 (v := .slice A.ai d.i.length A.ci) rfl
    have c19 := box_cell H1 19 (v := .slice A.ao d.o.length A.co) rfl
    have c20 := box_cell H1 20 (v := .int .i64 d.wr) rfl
    have c21 := box_cell H1 21 (v := .int .i64 d.lo) rfl
    have hm1 := hm0.below b1
    go_wp2_with fail
    refine (l4Bytes_any A.ai d.i A.ci w1 hm1.2.1 (by have := hl.2.2.1; omega)).mono ?_
    rintro e w2 ⟨rfl, b2⟩
    have B2 := below_join B1 b2
    have hm2 := hm1.below b2
    have H2 := (b2.block _ (box_lt H1)).trans H1
    clear c18 c19 c20 c21
    have c18 := box_cell H2 18 (v := .slice A.ai d.i.length A.ci) rfl
    have c19 := box_cell H2 19 (v := .slice A.ao d.o.length A.co) rfl
    have c20 := box_cell H2 20 (v := .int .i64 d.wr) rfl
    have c21 := box_cell H2 21 (v := .int .i64 d.lo) rfl
    go_wp2_with fail
    refine (l4Bytes_any A.ao d.o A.co w2 hm2.2.2 (by have := hl.2.2.2; omega)).mono ?_
    rintro e w3 ⟨rfl, b3⟩
    have B3 := below_join B2 b3
    have H3 := (b3.block _ (box_lt H2)).trans H2
    clear c18 c19 c20 c21
    have c18 := box_cell H3 18 (v := .slice A.ai d.i.length A.ci) rfl
    have c19 := box_cell H3 19 (v := .slice A.ao d.o.length A.co) rfl
    have c20 := box_cell H3 20 (v := .int .i64 d.wr) rfl
    have c21 := box_cell H3 21 (v := .int .i64 d.lo) rfl
    go_wp2
    go_ret
    exact ⟨ret_bool HF.out.symm, B3⟩
  have h5d : decide ((32 : Int) < (d.i.length : Int)) = false := by simpa using h5
  have h5' : (d.i.length : Int) ≤ 32 := by omega
  by_cases h6 : (32 : Int) < (d.o.length : Int)
  · have HF : Hid (drvB d = false) := Lib.hid (by simp only [drvB, ringB, decide_eq_false (show ¬ (d.o.length : Int) ≤ 32 by omega), Bool.false_and, Bool.and_false])
    clear h5
    go_enter Try.func35, Try.ntmps35
    go_wp2_with (first
      | (refine wpList_load_box _ rfl (by rfl) (b := w.heap.size) (off := 0) (n := 18) rfl H0 Try.underlying44 (by kernel_rfl) (Nat.le_of_ble_eq_true rfl) (portC d.p A.p) rfl ?_))
    refine (specPortValid_any d.p A.p _ hm0.1 hl.1 hl.2.1).mono ?_
    rintro e w1 ⟨rfl, b1⟩
    have H1 := (b1.block _ (by simp)).trans H0
    have B1 := below_join b0 b1
    have c18 := box_cell H1 18 (v := .slice A.ai d.i.length A.ci) rfl
    have c19 := box_cell H1 19 (v := .slice A.ao d.o.length A.co) rfl
    have c20 := box_cell H1 20 (v := .int .i64 d.wr) rfl
    have c21 := box_cell H1 21 (v := .int .i64 d.lo) rfl
    have hm1 := hm0.below b1
    go_wp2_with fail
    refine (l4Bytes_any A.ai d.i A.ci w1 hm1.2.1 (by have := hl.2.2.1; omega)).mono ?_
    rintro e w2 ⟨rfl, b2⟩
    have B2 := below_join B1 b2
    have hm2 := hm1.below b2
    have H2 := (b2.block _ (box_lt H1)).trans H1
    clear c18 c19 c20 c21
    have c18 := box_cell H2 18 (v := .slice A.ai d.i.length A.ci) rfl
    have c19 := box_cell H2 19 (v := .slice A.ao d.o.length A.co) rfl
    have c20 := box_cell H2 20 (v := .int .i64 d.wr) rfl
    have c21 := box_cell H2 21 (v := .int .i64 d.lo) rfl
    go_wp2_with fail
    refine (l4Bytes_any A.ao d.o A.co w2 hm2.2.2 (by have := hl.2.2.2; omega)).mono ?_
    rintro e w3 ⟨rfl, b3⟩
    have B3 := below_join B2 b3
    have H3 := (b3.block _ (box_lt H2)).trans H2
    clear c18 c19 c20 c21
    have c18 := box_cell H3 18 (v := .slice A.ai d.i.length A.ci) rfl
    have c19 := box_cell H3 19 (v := .slice A.ao d.o.length A.co) rfl
    have c20 := box_cell H3 20 (v := .int .i64 d.wr) rfl
    have c21 := box_cell H3 21 (v := .int .i64 d.lo) rfl
    go_wp2
    go_ret
    exact ⟨ret_bool HF.out.symm, B3⟩
  have h6d : decide ((32 : Int) < (d.o.length : Int)) = false := by simpa using h6
  have h6' : (d.o.length : Int) ≤ 32 := by omega
  have HG : Hid (drvB d = (inB d.wr 0 999 && inB d.lo 0 999)) := Lib.hid (by simp only [drvB, ringB, decide_eq_true h5', decide_eq_true h6', h1, h2, h3, Bool.true_and])
  clear h5 h6
  cases h4 : inB d.wr 0 999
  · have HF : Hid (drvB d = false) := Lib.hid (by rw [HG.out, h4]; rfl)
    go_enter Try.func35, Try.ntmps35
    go_wp2_with (first
      | (refine wpList_load_box _ rfl (by rfl) (b := w.heap.size) (off := 0) (n := 18) rfl H0 Try.underlying44 (by kernel_rfl) (Nat.le_of_ble_eq_true rfl) (portC d.p A.p) rfl ?_))
    refine (specPortValid_any d.p A.p _ hm0.1 hl.1 hl.2.1).mono ?_
    rintro e w1 ⟨rfl, b1⟩
    have H1 := (b1.block _ (by simp)).trans H0
    have B1 := below_join b0 b1
    have c18 := box_cell H1 18 (v := .slice A.ai d.i.length A.ci) rfl
    have c19 := box_cell H1 19 (v := .slice A.ao d.o.length A.co) rfl
    have c20 := box_cell H1 20 (v := .int .i64 d.wr) rfl
    have c21 := box_cell H1 21 (v := .int .i64 d.lo) rfl
    have hm1 := hm0.below b1
    go_wp2_with fail
    refine (l4Bytes_any A.ai d.i A.ci w1 hm1.2.1 (by have := hl.2.2.1; omega)).mono ?_
    rintro e w2 ⟨rfl, b2⟩
    have B2 := below_join B1 b2
    have hm2 := hm1.below b2
    have H2 := (b2.block _ (box_lt H1)).trans H1
    clear c18 c19 c20 c21
    have c18 := box_cell H2 18 (v := .slice A.ai d.i.length A.ci) rfl
    have c19 := box_cell H2 19 (v := .slice A.ao d.o.length A.co) rfl
    have c20 := box_cell H2 20 (v := .int .i64 d.wr) rfl
    have c21 := box_cell H2 21 (v := .int .i64 d.lo) rfl
    go_wp2_with fail
    refine (l4Bytes_any A.ao d.o A.co w2 hm2.2.2 (by have := hl.2.2.2; omega)).mono ?_
    rintro e w3 ⟨rfl, b3⟩
    have B3 := below_join B2 b3
    have H3 := (b3.block _ (box_lt H2)).trans H2
    clear c18 c19 c20 c21
    have c18 := box_cell H3 18 (v := .slice A.ai d.i.length A.ci) rfl
    have c19 := box_cell H3 19 (v := .slice A.ao d.o.length A.co) rfl
    have c20 := box_cell H3 20 (v := .int .i64 d.wr) rfl
    have c21 := box_cell H3 21 (v := .int .i64 d.lo) rfl
    go_wp2_with fail
    refine (l6In_any d.wr 0 999 w3).mono ?_
    rintro e w4 ⟨rfl, rfl⟩
    go_wp2
    go_ret
    exact ⟨ret_bool HF.out.symm, B3⟩
  · have HF : Hid (drvB d = inB d.lo 0 999) := Lib.hid (by rw [HG.out, h4]; rfl)
    go_enter Try.func35, Try.ntmps35
    go_wp2_with (first
      | (refine wpList_load_box _ rfl (by rfl) (b := w.heap.size) (off := 0) (n := 18) rfl H0 Try.underlying44 (by kernel_rfl) (Nat.le_of_ble_eq_true rfl) (portC d.p A.p) rfl ?_))
    refine (specPortValid_any d.p A.p _ hm0.1 hl.1 hl.2.1).mono ?_
    rintro e w1 ⟨rfl, b1⟩
    have H1 := (b1.block _ (by simp)).trans H0
    have B1 := below_join b0 b1
    have c18 := box_cell H1 18 (v := .slice A.ai d.i.length A.ci) rfl
    have c19 := box_cell H1 19 (v := .slice A.ao d.o.length A.co) rfl
    have c20 := box_cell H1 20 (v := .int .i64 d.wr) rfl
    have c21 := box_cell H1 21 (v := .int .i64 d.lo) rfl
    have hm1 := hm0.below b1
    go_wp2_with fail
    refine (l4Bytes_any A.ai d.i A.ci w1 hm1.2.1 (by have := hl.2.2.1; omega)).mono ?_
    rintro e w2 ⟨rfl, b2⟩
    have B2 := below_join B1 b2
    have hm2 := hm1.below b2
    have H2 := (b2.block _ (box_lt H1)).trans H1
    clear c18 c19 c20 c21
    have c18 := box_cell H2 18 (v := .slice A.ai d.i.length A.ci) rfl
    have c19 := box_cell H2 19 (v := .slice A.ao d.o.length A.co) rfl
    have c20 := box_cell H2 20 (v := .int .i64 d.wr) rfl
    have c21 := box_cell H2 21 (v := .int .i64 d.lo) rfl
    go_wp2_with fail
    refine (l4Bytes_any A.ao d.o A.co w2 hm2.2.2 (by have := hl.2.2.2; omega)).mono ?_
    rintro e w3 ⟨rfl, b3⟩
    have B3 := below_join B2 b3
    have H3 := (b3.block _ (box_lt H2)).trans H2
    clear c18 c19 c20 c21
    have c18 := box_cell H3 18 (v := .slice A.ai d.i.length A.ci) rfl
    have c19 := box_cell H3 19 (v := .slice A.ao d.o.length A.co) rfl
    have c20 := box_cell H3 20 (v := .int .i64 d.wr) rfl
    have c21 := box_cell H3 21 (v := .int .i64 d.lo) rfl
    go_wp2_with fail
    refine (l6In_any d.wr 0 999 w3).mono ?_
    rintro e w4 ⟨rfl, rfl⟩
    go_wp2_with fail
    refine (l6In_any d.lo 0 999 w3).mono ?_
    rintro e w4 ⟨rfl, rfl⟩
    go_wp2
    go_ret
    exact ⟨ret_bool HF.out.symm, B3⟩
end Go.Proofs.Ytkmampichfbppaa
