/- Ports and drivers: the data; who is valid. -/
import Derived.Test.YtkmampichfbppaaDoorStore
import Derived.Test.YtkmampichfbppaaDoorFormat
import Derived.Test.YtkmampichfbppaaDoorRecv3
import Derived.Test.YtkmampichfbppaaDoorSend4
namespace Go.Proofs.YtkmampichfbppaaDoor
open Go.RowKit

structure PortD where
  b : Int
  p : Int
  s : Int
  en : Int
  co : Int
  r : Int
  t : Int
  gs : List Gt
  l : Bool
  ag : Int
  sr : Int
  ys : List Int
  sh : Int
  sl : Int
  m1 : Bool
  m2 : Bool
  m3 : Bool
  m4 : Bool
/-- Where a port's two rows lie. -/
structure PortA where
  ax : Option Addr
  cx : Nat
  ay : Option Addr
  cy : Nat
def portC (d : PortD) (A : PortA) : Array Value := #[.int .i64 d.b, .int .i64 d.p, .int .i64 d.s, .int .i64 d.en, .int .i64 d.co, .int .i64 d.r, .int .i64 d.t, .slice A.ax d.gs.length A.cx, .bool d.l, .int .i64 d.ag, .int .i64 d.sr, .slice A.ay d.ys.length A.cy, .int .i64 d.sh, .int .i64 d.sl, .bool d.m1, .bool d.m2, .bool d.m3, .bool d.m4]
def PortM (w : World) (d : PortD) (A : PortA) : Prop := Gts w A.ax d.gs ∧ Ints w A.ay d.ys
theorem PortM.below {w w' : World} {d : PortD} {A : PortA} (h : PortM w d A) (b : Below w.heap.size w w') : PortM w' d A := ⟨h.1.below b, h.2.below b⟩
def portB (d : PortD) : Bool := fmtB d.b d.p d.s && (inB d.en 0 15 && (inB d.co 0 3 && (recvB d.r d.t d.gs d.ag && sendVB d.sr d.ys d.sh d.sl)))
structure DrvD where
  p : PortD
  i : List Int
  o : List Int
  wr : Int
  lo : Int
structure DrvA where
  p : PortA
  ai : Option Addr
  ci : Nat
  ao : Option Addr
  co : Nat
def drvC (d : DrvD) (A : DrvA) : Array Value := #[.int .i64 d.p.b, .int .i64 d.p.p, .int .i64 d.p.s, .int .i64 d.p.en, .int .i64 d.p.co, .int .i64 d.p.r, .int .i64 d.p.t, .slice A.p.ax d.p.gs.length A.p.cx, .bool d.p.l, .int .i64 d.p.ag, .int .i64 d.p.sr, .slice A.p.ay d.p.ys.length A.p.cy, .int .i64 d.p.sh, .int .i64 d.p.sl, .bool d.p.m1, .bool d.p.m2, .bool d.p.m3, .bool d.p.m4, .slice A.ai d.i.length A.ci, .slice A.ao d.o.length A.co, .int .i64 d.wr, .int .i64 d.lo]
def DrvM (w : World) (d : DrvD) (A : DrvA) : Prop := PortM w d.p A.p ∧ Ints w A.ai d.i ∧ Ints w A.ao d.o
theorem DrvM.below {w w' : World} {d : DrvD} {A : DrvA} (h : DrvM w d A) (b : Below w.heap.size w w') : DrvM w' d A := ⟨h.1.below b, h.2.1.below b, h.2.2.below b⟩
def ringB (xs : List Int) : Bool := decide ((xs.length : Int) ≤ 32) && bytesB xs
def drvB (d : DrvD) : Bool := portB d.p && (ringB d.i && (ringB d.o && (inB d.wr 0 999 && inB d.lo 0 999)))
theorem box_cell {w : World} {b : Nat} {cs : Array Value} {T : TypeId} (h : w.heap[b]? = some (.cells cs T (0, 0))) (i : Nat) {v : Value} (hv : cs[i]? = some v) : w.cell? ⟨b, i, none⟩ = some v := by
  simp [World.cell?, h, hv]
theorem box_hot {w : World} {b : Nat} {cs : Array Value} {T : TypeId} (h : w.heap[b]? = some (.cells cs T (0, 0))) (i : Nat) : w.frozen? ⟨b, i, none⟩ = false := by
  simp [World.frozen?, h]
set_option maxHeartbeats 2000000 in
set_option maxRecDepth 100000 in
theorem specPortValid_any (d : PortD) (A : PortA) (w : World) (hm : PortM w d A) (lg : d.gs.length ≤ 1048576) (ly : d.ys.length ≤ 1048576) :
    Calls Tryd.prog 19 #[.agg (portC d A)] w fun e w' => e = .returned (.bool (portB d)) ∧ Below w.heap.size w w' := by
  have b0 : Below w.heap.size w (w.alloc (.cells (portC d A) 34)) := (Below.refl _ _).alloc (Nat.le_refl _) _
  have H0 := heap_new_at w (.cells (portC d A) 34) _ rfl
  have hm0 := hm.below b0
  cases h1 : fmtB d.b d.p d.s
  · go_enter Tryd.func19, Tryd.ntmps19
    go_wp2_with (first
      | (refine wpList_load_box _ rfl (by rfl) (b := w.heap.size) (off := 0) (n := 3) rfl H0 Tryd.underlying24 (by kernel_rfl) (Nat.le_of_ble_eq_true rfl) (#[.int .i64 d.b, .int .i64 d.p, .int .i64 d.s]) rfl ?_))
    refine (formatValid_any d.b d.p d.s _).mono ?_
    rintro e w1 ⟨rfl, b1⟩
    have H1 := (b1.block _ (by simp)).trans H0
    have B1 := below_join b0 b1
    have c3 := box_cell H1 3 (v := .int .i64 d.en) rfl
    have c4 := box_cell H1 4 (v := .int .i64 d.co) rfl
    have hm1 := hm0.below b1
    go_wp2
    go_ret
    exact ⟨ret_bool (by simp [portB, *]), B1⟩
  cases h2 : inB d.en 0 15
  · go_enter Tryd.func19, Tryd.ntmps19
    go_wp2_with (first
      | (refine wpList_load_box _ rfl (by rfl) (b := w.heap.size) (off := 0) (n := 3) rfl H0 Tryd.underlying24 (by kernel_rfl) (Nat.le_of_ble_eq_true rfl) (#[.int .i64 d.b, .int .i64 d.p, .int .i64 d.s]) rfl ?_))
    refine (formatValid_any d.b d.p d.s _).mono ?_
    rintro e w1 ⟨rfl, b1⟩
    have H1 := (b1.block _ (by simp)).trans H0
    have B1 := below_join b0 b1
    have c3 := box_cell H1 3 (v := .int .i64 d.en) rfl
    have c4 := box_cell H1 4 (v := .int .i64 d.co) rfl
    have hm1 := hm0.below b1
    go_wp2_with fail
    refine (l6In_any d.en 0 15 w1).mono ?_
    rintro e w2 ⟨rfl, rfl⟩
    go_wp2
    go_ret
    exact ⟨ret_bool (by simp [portB, *]), B1⟩
  cases h3 : inB d.co 0 3
  · go_enter Tryd.func19, Tryd.ntmps19
    go_wp2_with (first
      | (refine wpList_load_box _ rfl (by rfl) (b := w.heap.size) (off := 0) (n := 3) rfl H0 Tryd.underlying24 (by kernel_rfl) (Nat.le_of_ble_eq_true rfl) (#[.int .i64 d.b, .int .i64 d.p, .int .i64 d.s]) rfl ?_))
    refine (formatValid_any d.b d.p d.s _).mono ?_
    rintro e w1 ⟨rfl, b1⟩
    have H1 := (b1.block _ (by simp)).trans H0
    have B1 := below_join b0 b1
    have c3 := box_cell H1 3 (v := .int .i64 d.en) rfl
    have c4 := box_cell H1 4 (v := .int .i64 d.co) rfl
    have hm1 := hm0.below b1
    go_wp2_with fail
    refine (l6In_any d.en 0 15 w1).mono ?_
    rintro e w2 ⟨rfl, rfl⟩
    go_wp2_with fail
    refine (l6In_any d.co 0 3 w1).mono ?_
    rintro e w2 ⟨rfl, rfl⟩
    go_wp2
    go_ret
    exact ⟨ret_bool (by simp [portB, *]), B1⟩
  cases h4 : recvB d.r d.t d.gs d.ag
  · go_enter Tryd.func19, Tryd.ntmps19
    go_wp2_with (first
      | (refine wpList_load_box _ rfl (by rfl) (b := w.heap.size) (off := 0) (n := 3) rfl H0 Tryd.underlying24 (by kernel_rfl) (Nat.le_of_ble_eq_true rfl) (#[.int .i64 d.b, .int .i64 d.p, .int .i64 d.s]) rfl ?_))
    refine (formatValid_any d.b d.p d.s _).mono ?_
    rintro e w1 ⟨rfl, b1⟩
    have H1 := (b1.block _ (by simp)).trans H0
    have B1 := below_join b0 b1
    have c3 := box_cell H1 3 (v := .int .i64 d.en) rfl
    have c4 := box_cell H1 4 (v := .int .i64 d.co) rfl
    have hm1 := hm0.below b1
    go_wp2_with fail
    refine (l6In_any d.en 0 15 w1).mono ?_
    rintro e w2 ⟨rfl, rfl⟩
    go_wp2_with fail
    refine (l6In_any d.co 0 3 w1).mono ?_
    rintro e w2 ⟨rfl, rfl⟩
    go_wp2_with (first
      | (refine wpList_load_box _ rfl (by rfl) (b := w.heap.size) (off := 5) (n := 5) rfl H1 Tryd.underlying27 (by kernel_rfl) (Nat.le_of_ble_eq_true rfl) (#[.int .i64 d.r, .int .i64 d.t, .slice A.ax d.gs.length A.cx, .bool d.l, .int .i64 d.ag]) rfl ?_))
    refine (specRecvValid_any d.r d.t A.ax d.gs A.cx d.l d.ag w1 hm1.1 (by omega)).mono ?_
    rintro e w2 ⟨rfl, b2⟩
    have B2 := below_join B1 b2
    go_wp2
    go_ret
    exact ⟨ret_bool (by simp [portB, *]), B2⟩
  · go_enter Tryd.func19, Tryd.ntmps19
    go_wp2_with (first
      | (refine wpList_load_box _ rfl (by rfl) (b := w.heap.size) (off := 0) (n := 3) rfl H0 Tryd.underlying24 (by kernel_rfl) (Nat.le_of_ble_eq_true rfl) (#[.int .i64 d.b, .int .i64 d.p, .int .i64 d.s]) rfl ?_))
    refine (formatValid_any d.b d.p d.s _).mono ?_
    rintro e w1 ⟨rfl, b1⟩
    have H1 := (b1.block _ (by simp)).trans H0
    have B1 := below_join b0 b1
    have c3 := box_cell H1 3 (v := .int .i64 d.en) rfl
    have c4 := box_cell H1 4 (v := .int .i64 d.co) rfl
    have hm1 := hm0.below b1
    go_wp2_with fail
    refine (l6In_any d.en 0 15 w1).mono ?_
    rintro e w2 ⟨rfl, rfl⟩
    go_wp2_with fail
    refine (l6In_any d.co 0 3 w1).mono ?_
    rintro e w2 ⟨rfl, rfl⟩
    go_wp2_with (first
      | (refine wpList_load_box _ rfl (by rfl) (b := w.heap.size) (off := 5) (n := 5) rfl H1 Tryd.underlying27 (by kernel_rfl) (Nat.le_of_ble_eq_true rfl) (#[.int .i64 d.r, .int .i64 d.t, .slice A.ax d.gs.length A.cx, .bool d.l, .int .i64 d.ag]) rfl ?_))
    refine (specRecvValid_any d.r d.t A.ax d.gs A.cx d.l d.ag w1 hm1.1 (by omega)).mono ?_
    rintro e w2 ⟨rfl, b2⟩
    have B2 := below_join B1 b2
    have H2 := (b2.block _ (box_lt H1)).trans H1
    have hm2 := hm1.below b2
    go_wp2_with (first
      | (refine wpList_load_box _ rfl (by rfl) (b := w.heap.size) (off := 10) (n := 4) rfl H2 Tryd.underlying30 (by kernel_rfl) (Nat.le_of_ble_eq_true rfl) (#[.int .i64 d.sr, .slice A.ay d.ys.length A.cy, .int .i64 d.sh, .int .i64 d.sl]) rfl ?_))
    refine (specSendValid_any d.sr A.ay d.ys A.cy d.sh d.sl w2 hm2.2 (by omega)).mono ?_
    rintro e w3 ⟨rfl, b3⟩
    have B3 := below_join B2 b3
    go_wp2
    go_ret
    exact ⟨ret_bool (by simp [portB, *]), B3⟩
set_option maxHeartbeats 2000000 in
set_option maxRecDepth 100000 in
theorem endsOf_any (d : PortD) (A : PortA) (w : World) :
    Calls Tryd.prog 24 #[.agg (portC d A)] w fun e w' => e = .returned (.agg #[.int .i64 d.r, .int .i64 d.t, .slice A.ax d.gs.length A.cx, .bool d.l, .int .i64 d.ag, .int .i64 d.sr, .slice A.ay d.ys.length A.cy, .int .i64 d.sh, .int .i64 d.sl]) ∧ Below w.heap.size w w' := by
  go_enter Tryd.func24, Tryd.ntmps24
  go_wp2_with (first
    | (refine wpList_load_box _ rfl (by rfl) (b := w.heap.size) (off := 5) (n := 5) rfl (box_alloc (heap_new_at w (.cells (portC d A) 34) _ rfl) _) Tryd.underlying27 (by kernel_rfl) (Nat.le_of_ble_eq_true rfl) #[.int .i64 d.r, .int .i64 d.t, .slice A.ax d.gs.length A.cx, .bool d.l, .int .i64 d.ag] rfl ?_)
    | (refine wpList_load_box _ rfl (by rfl) (b := w.heap.size) (off := 10) (n := 4) rfl (box_alloc (heap_new_at w (.cells (portC d A) 34) _ rfl) _) Tryd.underlying30 (by kernel_rfl) (Nat.le_of_ble_eq_true rfl) #[.int .i64 d.sr, .slice A.ay d.ys.length A.cy, .int .i64 d.sh, .int .i64 d.sl] rfl ?_))
  refine bodyPost_ret (v := .agg #[.int .i64 d.r, .int .i64 d.t, .slice A.ax d.gs.length A.cx, .bool d.l, .int .i64 d.ag, .int .i64 d.sr, .slice A.ay d.ys.length A.cy, .int .i64 d.sh, .int .i64 d.sl]) (by simp [results, Tryd.results24, go_sem]) rfl ?_
  refine ⟨rfl, ?_⟩
  repeat (first | with_reducible exact Below.refl _ _ | with_reducible refine Below.alloc ?_ (by first | exact Nat.le_refl _ | (simp; done) | (simp; omega)) _ | with_reducible refine Below.setCell ?_ (by first | exact Nat.le_refl _ | (simp; done) | (simp; omega)) _)
set_option maxHeartbeats 2000000 in
set_option maxRecDepth 100000 in
theorem endsValid_any (d : PortD) (A : PortA) (w : World) (hm : PortM w d A) (lg : d.gs.length ≤ 1048576) (ly : d.ys.length ≤ 1048576) :
    Calls Tryd.prog 25 #[.agg #[.int .i64 d.r, .int .i64 d.t, .slice A.ax d.gs.length A.cx, .bool d.l, .int .i64 d.ag, .int .i64 d.sr, .slice A.ay d.ys.length A.cy, .int .i64 d.sh, .int .i64 d.sl]] w fun e w' => e = .returned (.bool (recvB d.r d.t d.gs d.ag && sendVB d.sr d.ys d.sh d.sl)) ∧ Below w.heap.size w w' := by
  have b0 : Below w.heap.size w (w.alloc (.cells #[.int .i64 d.r, .int .i64 d.t, .slice A.ax d.gs.length A.cx, .bool d.l, .int .i64 d.ag, .int .i64 d.sr, .slice A.ay d.ys.length A.cy, .int .i64 d.sh, .int .i64 d.sl] 55)) := (Below.refl _ _).alloc (Nat.le_refl _) _
  have H0 := heap_new_at w (.cells #[.int .i64 d.r, .int .i64 d.t, .slice A.ax d.gs.length A.cx, .bool d.l, .int .i64 d.ag, .int .i64 d.sr, .slice A.ay d.ys.length A.cy, .int .i64 d.sh, .int .i64 d.sl] 55) _ rfl
  have hm0 := hm.below b0
  cases h4 : recvB d.r d.t d.gs d.ag
  · go_enter Tryd.func25, Tryd.ntmps25
    go_wp2_with (first
      | (refine wpList_load_box _ rfl (by rfl) (b := w.heap.size) (off := 0) (n := 5) rfl H0 Tryd.underlying27 (by kernel_rfl) (Nat.le_of_ble_eq_true rfl) (#[.int .i64 d.r, .int .i64 d.t, .slice A.ax d.gs.length A.cx, .bool d.l, .int .i64 d.ag]) rfl ?_))
    refine (implRecvValid_any d.r d.t A.ax d.gs A.cx d.l d.ag _ hm0.1 (by omega)).mono ?_
    rintro e w2 ⟨rfl, b2⟩
    have B2 := below_join b0 b2
    go_wp2
    go_ret
    exact ⟨ret_bool (by simp [*]), B2⟩
  · go_enter Tryd.func25, Tryd.ntmps25
    go_wp2_with (first
      | (refine wpList_load_box _ rfl (by rfl) (b := w.heap.size) (off := 0) (n := 5) rfl H0 Tryd.underlying27 (by kernel_rfl) (Nat.le_of_ble_eq_true rfl) (#[.int .i64 d.r, .int .i64 d.t, .slice A.ax d.gs.length A.cx, .bool d.l, .int .i64 d.ag]) rfl ?_))
    refine (implRecvValid_any d.r d.t A.ax d.gs A.cx d.l d.ag _ hm0.1 (by omega)).mono ?_
    rintro e w2 ⟨rfl, b2⟩
    have B2 := below_join b0 b2
    have H2 := (b2.block _ (box_lt H0)).trans H0
    have hm2 := hm0.below b2
    go_wp2_with (first
      | (refine wpList_load_box _ rfl (by rfl) (b := w.heap.size) (off := 5) (n := 4) rfl H2 Tryd.underlying30 (by kernel_rfl) (Nat.le_of_ble_eq_true rfl) (#[.int .i64 d.sr, .slice A.ay d.ys.length A.cy, .int .i64 d.sh, .int .i64 d.sl]) rfl ?_))
    refine (implSendValid_any d.sr A.ay d.ys A.cy d.sh d.sl w2 hm2.2 (by omega)).mono ?_
    rintro e w3 ⟨rfl, b3⟩
    go_wp2
    go_ret
    exact ⟨ret_bool (by simp [*]), below_join B2 b3⟩
set_option maxHeartbeats 2000000 in
set_option maxRecDepth 100000 in
theorem implPortValid_any (d : PortD) (A : PortA) (w : World) (hm : PortM w d A) (lg : d.gs.length ≤ 1048576) (ly : d.ys.length ≤ 1048576) :
    Calls Tryd.prog 10 #[.agg (portC d A)] w fun e w' => e = .returned (.bool (portB d)) ∧ Below w.heap.size w w' := by
  have b0 : Below w.heap.size w (w.alloc (.cells (portC d A) 34)) := (Below.refl _ _).alloc (Nat.le_refl _) _
  have H0 := heap_new_at w (.cells (portC d A) 34) _ rfl
  have hm0 := hm.below b0
  cases h1 : fmtB d.b d.p d.s
  · have HF : Hid (portB d = false) := Lib.hid (by simp [portB, h1])
    go_enter Tryd.func10, Tryd.ntmps10
    go_wp2_with (first
      | (refine wpList_load_box _ rfl (by rfl) (b := w.heap.size) (off := 0) (n := 3) rfl H0 Tryd.underlying24 (by kernel_rfl) (Nat.le_of_ble_eq_true rfl) (#[.int .i64 d.b, .int .i64 d.p, .int .i64 d.s]) rfl ?_))
    refine (implFormatValid_any d.b d.p d.s _).mono ?_
    rintro e w1 ⟨rfl, b1⟩
    have H1 := (b1.block _ (by simp)).trans H0
    have B1 := below_join b0 b1
    have c3 := box_cell H1 3 (v := .int .i64 d.en) rfl
    have c4 := box_cell H1 4 (v := .int .i64 d.co) rfl
    have hm1 := hm0.below b1
    go_wp2
    go_ret
    exact ⟨ret_bool HF.out.symm, B1⟩
  by_cases h2 : 0 ≤ d.en
  case neg =>
    have HF : Hid (portB d = false) := Lib.hid (by simp [portB, inB]; omega)
    have hd : decide (0 ≤ d.en) = false := by simpa using h2
    have hn : d.en < 0 := by omega
    clear h2
    go_enter Tryd.func10, Tryd.ntmps10
    go_wp2_with (first
      | (refine wpList_load_box _ rfl (by rfl) (b := w.heap.size) (off := 0) (n := 3) rfl H0 Tryd.underlying24 (by kernel_rfl) (Nat.le_of_ble_eq_true rfl) (#[.int .i64 d.b, .int .i64 d.p, .int .i64 d.s]) rfl ?_))
    refine (implFormatValid_any d.b d.p d.s _).mono ?_
    rintro e w1 ⟨rfl, b1⟩
    have H1 := (b1.block _ (by simp)).trans H0
    have B1 := below_join b0 b1
    have c3 := box_cell H1 3 (v := .int .i64 d.en) rfl
    have c4 := box_cell H1 4 (v := .int .i64 d.co) rfl
    have hm1 := hm0.below b1
    go_wp2
    go_ret
    exact ⟨ret_bool HF.out.symm, B1⟩
  by_cases h3 : d.en ≤ 15
  case neg =>
    have HF : Hid (portB d = false) := Lib.hid (by simp [portB, inB]; omega)
    have hd : decide (d.en ≤ 15) = false := by simpa using h3
    have hn : 15 < d.en := by omega
    clear h3
    go_enter Tryd.func10, Tryd.ntmps10
    go_wp2_with (first
      | (refine wpList_load_box _ rfl (by rfl) (b := w.heap.size) (off := 0) (n := 3) rfl H0 Tryd.underlying24 (by kernel_rfl) (Nat.le_of_ble_eq_true rfl) (#[.int .i64 d.b, .int .i64 d.p, .int .i64 d.s]) rfl ?_))
    refine (implFormatValid_any d.b d.p d.s _).mono ?_
    rintro e w1 ⟨rfl, b1⟩
    have H1 := (b1.block _ (by simp)).trans H0
    have B1 := below_join b0 b1
    have c3 := box_cell H1 3 (v := .int .i64 d.en) rfl
    have c4 := box_cell H1 4 (v := .int .i64 d.co) rfl
    have hm1 := hm0.below b1
    go_wp2
    go_ret
    exact ⟨ret_bool HF.out.symm, B1⟩
  by_cases h5 : 0 ≤ d.co
  case neg =>
    have HF : Hid (portB d = false) := Lib.hid (by simp [portB, inB]; omega)
    have hd : decide (0 ≤ d.co) = false := by simpa using h5
    have hn : d.co < 0 := by omega
    clear h5
    go_enter Tryd.func10, Tryd.ntmps10
    go_wp2_with (first
      | (refine wpList_load_box _ rfl (by rfl) (b := w.heap.size) (off := 0) (n := 3) rfl H0 Tryd.underlying24 (by kernel_rfl) (Nat.le_of_ble_eq_true rfl) (#[.int .i64 d.b, .int .i64 d.p, .int .i64 d.s]) rfl ?_))
    refine (implFormatValid_any d.b d.p d.s _).mono ?_
    rintro e w1 ⟨rfl, b1⟩
    have H1 := (b1.block _ (by simp)).trans H0
    have B1 := below_join b0 b1
    have c3 := box_cell H1 3 (v := .int .i64 d.en) rfl
    have c4 := box_cell H1 4 (v := .int .i64 d.co) rfl
    have hm1 := hm0.below b1
    go_wp2
    go_ret
    exact ⟨ret_bool HF.out.symm, B1⟩
  by_cases h6 : d.co ≤ 3
  case neg =>
    have HF : Hid (portB d = false) := Lib.hid (by simp [portB, inB]; omega)
    have hd : decide (d.co ≤ 3) = false := by simpa using h6
    have hn : 3 < d.co := by omega
    clear h6
    go_enter Tryd.func10, Tryd.ntmps10
    go_wp2_with (first
      | (refine wpList_load_box _ rfl (by rfl) (b := w.heap.size) (off := 0) (n := 3) rfl H0 Tryd.underlying24 (by kernel_rfl) (Nat.le_of_ble_eq_true rfl) (#[.int .i64 d.b, .int .i64 d.p, .int .i64 d.s]) rfl ?_))
    refine (implFormatValid_any d.b d.p d.s _).mono ?_
    rintro e w1 ⟨rfl, b1⟩
    have H1 := (b1.block _ (by simp)).trans H0
    have B1 := below_join b0 b1
    have c3 := box_cell H1 3 (v := .int .i64 d.en) rfl
    have c4 := box_cell H1 4 (v := .int .i64 d.co) rfl
    have hm1 := hm0.below b1
    go_wp2
    go_ret
    exact ⟨ret_bool HF.out.symm, B1⟩
  have HF : Hid (portB d = (recvB d.r d.t d.gs d.ag && sendVB d.sr d.ys d.sh d.sl)) := Lib.hid (by simp [portB, inB, h1, h2, h3, h5, h6])
  go_enter Tryd.func10, Tryd.ntmps10
  go_wp2_with (first
    | (refine wpList_load_box _ rfl (by rfl) (b := w.heap.size) (off := 0) (n := 3) rfl H0 Tryd.underlying24 (by kernel_rfl) (Nat.le_of_ble_eq_true rfl) (#[.int .i64 d.b, .int .i64 d.p, .int .i64 d.s]) rfl ?_))
  refine (implFormatValid_any d.b d.p d.s _).mono ?_
  rintro e w1 ⟨rfl, b1⟩
  have H1 := (b1.block _ (by simp)).trans H0
  have B1 := below_join b0 b1
  have c3 := box_cell H1 3 (v := .int .i64 d.en) rfl
  have c4 := box_cell H1 4 (v := .int .i64 d.co) rfl
  have hm1 := hm0.below b1
  go_wp2_with (first
    | (refine wpList_load_box _ rfl (by rfl) (b := w.heap.size) (off := 0) (n := 18) rfl H1 Tryd.underlying34 (by kernel_rfl) (Nat.le_of_ble_eq_true rfl) (portC d A) rfl ?_))
  refine (endsOf_any d A w1).mono ?_
  rintro e w2 ⟨rfl, b2⟩
  have hm2 := hm1.below b2
  go_wp2_with fail
  refine (endsValid_any d A w2 hm2 lg ly).mono ?_
  rintro e w3 ⟨rfl, b3⟩
  go_wp2
  go_ret
  exact ⟨ret_bool HF.out.symm, below_join (below_join B1 b2) b3⟩
end Go.Proofs.YtkmampichfbppaaDoor
