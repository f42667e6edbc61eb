/- Ports and drivers: marks. -/
import Derived.Test.YtkmampichfbppaaDrvEx
namespace Go.Proofs.Ytkmampichfbppaa
open Go.RowKit

/-- Nothing has turned but the blocks of these rows (and what is new). -/
def Off (L : List (Option Addr)) (w w' : World) : Prop :=
  w'.os = w.os ∧ w'.tape = w.tape ∧ w'.output = w.output ∧ w.heap.size ≤ w'.heap.size ∧ ∀ k, k < w.heap.size → (∀ a ∈ L, ∀ q, a = some q → q.block ≠ k) → w'.heap[k]? = w.heap[k]?
theorem Off.row {w w' : World} {ao : Option Addr} {n c : Nat} (h : w.grownBy w' (Value.slice ao n c).ownBlock) : Off [ao] w w' :=
  ⟨h.os, h.tape, h.output, h.size, fun k hk hne => h.block k hk (fun e => by
    cases ao with
    | none => simp [Value.ownBlock] at e
    | some a =>
      simp only [Value.ownBlock, Option.some.injEq] at e
      exact hne (some a) (by simp) a rfl e.symm)⟩
theorem Off.below {w w' : World} (L : List (Option Addr)) (h : Below w.heap.size w w') : Off L w w' := ⟨h.os, h.tape, h.output, h.size, fun k hk _ => h.block k hk⟩
theorem Off.trans {a b c : World} {L M : List (Option Addr)} (h : Off L a b) (k : Off M b c) : Off (L ++ M) a c :=
  ⟨k.1.trans h.1, k.2.1.trans h.2.1, k.2.2.1.trans h.2.2.1, Nat.le_trans h.2.2.2.1 k.2.2.2.1, fun i hi hne =>
    (k.2.2.2.2 i (Nat.lt_of_lt_of_le hi h.2.2.2.1) (fun a ha => hne a (List.mem_append_right _ ha))).trans (h.2.2.2.2 i hi (fun a ha => hne a (List.mem_append_left _ ha)))⟩
theorem Off.size {L : List (Option Addr)} {w w' : World} (h : Off L w w') : w.heap.size ≤ w'.heap.size := h.2.2.2.1
theorem Off.box {L : List (Option Addr)} {w w' : World} {b : Nat} {o : Obj} (h : w.heap[b]? = some o) (f : Off L w w') (hne : ∀ a ∈ L, ∀ q, a = some q → q.block ≠ b) : w'.heap[b]? = some o :=
  (f.2.2.2.2 b (box_lt h) hne).trans h
theorem Off.bel {L : List (Option Addr)} {B : Nat} {w0 w w' : World} (hb : Below B w0 w) (f : Off L w w') (hB : B ≤ w.heap.size) (hL : ∀ a ∈ L, ∀ q, a = some q → B ≤ q.block) : Below B w0 w' :=
  ⟨f.1.trans hb.os, f.2.1.trans hb.tape, f.2.2.1.trans hb.output, Nat.le_trans hb.size f.size, fun i hi =>
    (f.2.2.2.2 i (Nat.lt_of_lt_of_le hi hB) (fun a ha q hq e => by have := hL a ha q hq; omega)).trans (hb.block i hi)⟩
theorem own_off {L : List (Option Addr)} {w w' : World} {base e size n c : Nat} {ao : Option Addr} {vs : List Value} (h : w.ownsRow base e size (.slice ao n c) n vs) (f : Off L w w') (hd : ∀ a ∈ L, Apart ao a) : w'.ownsRow base e size (.slice ao n c) n vs := by
  refine ⟨h.1, ?_⟩
  rcases h.2 with hn | ⟨g, cap, cur, hv, hb, hh, rest⟩
  · exact .inl hn
  · have hao : ao = some ⟨g, 0, none⟩ := by injection hv
    exact .inr ⟨g, cap, cur, hv, hb, Off.box hh f (fun a ha q hq e => hd a ha _ _ hao hq e.symm), rest⟩
theorem own_ty_apart {w : World} {base e size n c base2 e2 size2 n2 c2 : Nat} {ao ao2 : Option Addr} {vs vs2 : List Value} (h : w.ownsRow base e size (.slice ao n c) n vs) (k : w.ownsRow base2 e2 size2 (.slice ao2 n2 c2) n2 vs2) (ht : e ≠ e2) : Apart ao ao2 := by
  rintro a b rfl rfl hab
  rcases h.2 with ⟨hv, _⟩ | ⟨g, cap, cur, hv, _, hh, _⟩
  · cases hv
  rcases k.2 with ⟨kv, _⟩ | ⟨g2, cap2, cur2, kv, _, kk, _⟩
  · cases kv
  · have e1 : a = ⟨g, 0, none⟩ := by injection hv with hv; injection hv
    have e2 : b = ⟨g2, 0, none⟩ := by injection kv with kv; injection kv
    rw [e1, e2] at hab
    dsimp only at hab
    rw [hab] at hh
    rw [hh] at kk
    injection kk with kk
    injection kk with _ kk _
    exact ht kk
def drvR (A : DrvA) : List (Option Addr) := [A.p.ax, A.p.ay, A.ai, A.ao]
/-- The rows' blocks lie in a range. -/
def InL (lo hi : Nat) (L : List (Option Addr)) : Prop := ∀ a ∈ L, In lo hi a
theorem InL.low {lo hi : Nat} {L : List (Option Addr)} (h : InL lo hi L) {B : Nat} (hB : B ≤ lo) : ∀ a ∈ L, ∀ q, a = some q → B ≤ q.block := fun a ha q hq => Nat.le_trans hB (h a ha q hq).1
theorem InL.apart {lo hi lo2 hi2 : Nat} {L : List (Option Addr)} {ao : Option Addr} (h : InL lo hi L) (k : In lo2 hi2 ao) (hd : hi ≤ lo2 ∨ hi2 ≤ lo) : ∀ a ∈ L, Apart ao a := fun a ha => k.apart (h a ha) (hd.symm)
theorem InL.ne {lo hi b : Nat} {L : List (Option Addr)} (h : InL lo hi L) (hd : b < lo ∨ hi ≤ b) : ∀ a ∈ L, ∀ q, a = some q → q.block ≠ b := fun a ha q hq e => by have := h a ha q hq; omega
theorem DrvO.inL {w : World} {B : Nat} {d : DrvD} {A : DrvA} (h : DrvO w B d A) : InL B w.heap.size (drvR A) := by
  intro a ha
  simp only [drvR, List.mem_cons, List.mem_nil_iff, or_false] at ha
  rcases ha with rfl | rfl | rfl | rfl
  · exact own_in h.1
  · exact own_in h.2.1
  · exact own_in h.2.2.1
  · exact own_in h.2.2.2
theorem DrvO.off {L : List (Option Addr)} {w w' : World} {B lo hi lo2 hi2 : Nat} {d : DrvD} {A : DrvA} (h : DrvO w B d A) (f : Off L w w') (hL : InL lo hi L) (hA : InL lo2 hi2 (drvR A)) (hd : hi ≤ lo2 ∨ hi2 ≤ lo) : DrvO w' B d A :=
  ⟨own_off h.1 f (hL.apart (hA _ (by simp [drvR])) hd), own_off h.2.1 f (hL.apart (hA _ (by simp [drvR])) hd), own_off h.2.2.1 f (hL.apart (hA _ (by simp [drvR])) hd), own_off h.2.2.2 f (hL.apart (hA _ (by simp [drvR])) hd)⟩
/-- A struct's block is none of a driver's rows. -/
theorem DrvO.ne {w : World} {B b : Nat} {d : DrvD} {A : DrvA} {cs : Array Value} {t : TypeId} (h : DrvO w B d A) (hb : w.heap[b]? = some (.cells cs t (0, 0))) (h1 : 126 ≠ t) (h2 : 3 ≠ t) : ∀ a ∈ drvR A, ∀ q, a = some q → q.block ≠ b := by
  intro a ha
  simp only [drvR, List.mem_cons, List.mem_nil_iff, or_false] at ha
  rcases ha with rfl | rfl | rfl | rfl
  · exact own_box_ne h.1 hb h1
  · exact own_box_ne h.2.1 hb h2
  · exact own_box_ne h.2.2.1 hb h2
  · exact own_box_ne h.2.2.2 hb h2
/-- The rows of a driver hold marks from k on. -/
def MarkO (w : World) (B : Nat) (d : DrvD) (A : DrvA) (k : Int) : Prop :=
  w.ownsRow B 126 2 (.slice A.p.ax d.p.gs.length A.p.cx) d.p.gs.length (marks k (d.p.gs.length * 2)) ∧
  w.ownsRow B 3 1 (.slice A.p.ay d.p.ys.length A.p.cy) d.p.ys.length (marks (k + ((d.p.gs.length : Int) * 2)) d.p.ys.length) ∧
  w.ownsRow B 3 1 (.slice A.ai d.i.length A.ci) d.i.length (marks (k + ((d.p.gs.length : Int) * 2) + (d.p.ys.length : Int)) d.i.length) ∧
  w.ownsRow B 3 1 (.slice A.ao d.o.length A.co) d.o.length (marks (k + ((d.p.gs.length : Int) * 2) + (d.p.ys.length : Int) + (d.i.length : Int)) d.o.length)
def drvN (d : DrvD) (k : Int) : Int := k + ((d.p.gs.length : Int) * 2) + (d.p.ys.length : Int) + (d.i.length : Int) + (d.o.length : Int)
def HeldM (w : World) (d : DrvD) (A : DrvA) (k : Int) : Prop :=
  Cells w A.p.ax (marks k (d.p.gs.length * 2)) ∧ Cells w A.p.ay (marks (k + ((d.p.gs.length : Int) * 2)) d.p.ys.length) ∧
  Cells w A.ai (marks (k + ((d.p.gs.length : Int) * 2) + (d.p.ys.length : Int)) d.i.length) ∧
  Cells w A.ao (marks (k + ((d.p.gs.length : Int) * 2) + (d.p.ys.length : Int) + (d.i.length : Int)) d.o.length)
theorem MarkO.held {w : World} {B : Nat} {d : DrvD} {A : DrvA} {k : Int} (h : MarkO w B d A k) : HeldM w d A k := ⟨own_cells h.1, own_cells h.2.1, own_cells h.2.2.1, own_cells h.2.2.2⟩
theorem HeldM.below {w w' : World} {d : DrvD} {A : DrvA} {k : Int} (h : HeldM w d A k) (b : Below w.heap.size w w') : HeldM w' d A k := ⟨h.1.below b, h.2.1.below b, h.2.2.1.below b, h.2.2.2.below b⟩
theorem MarkO.below {w w' : World} {B : Nat} {d : DrvD} {A : DrvA} {k : Int} (h : MarkO w B d A k) (b : Below w.heap.size w w') : MarkO w' B d A k := ⟨own_below h.1 b, own_below h.2.1 b, own_below h.2.2.1 b, own_below h.2.2.2 b⟩
set_option maxHeartbeats 4000000 in
set_option maxRecDepth 100000 in
theorem markPort_any (d : PortD) (A : PortA) (B : Nat) (k0 : Int) (w : World) (vs us : List Value) (hx : w.ownsRow B 126 2 (.slice A.ax d.gs.length A.cx) d.gs.length vs) (hy : w.ownsRow B 3 1 (.slice A.ay d.ys.length A.cy) d.ys.length us) (h0 : 0 ≤ k0) (h1 : k0 + (d.gs.length * 2) + d.ys.length ≤ 4611686018427387904) :
    Calls Try.prog 41 #[.agg (portC d A), .int .i64 k0] w fun e w' => e = .returned (.int .i64 (k0 + ((d.gs.length : Int) * 2) + (d.ys.length : Int))) ∧ w'.ownsRow B 126 2 (.slice A.ax d.gs.length A.cx) d.gs.length (marks k0 (d.gs.length * 2)) ∧ w'.ownsRow B 3 1 (.slice A.ay d.ys.length A.cy) d.ys.length (marks (k0 + ((d.gs.length : Int) * 2)) d.ys.length) ∧ Off [A.ax, A.ay] w w' := by
  have b0 : Below w.heap.size w (w.alloc (.cells (portC d A) 44)) := (Below.refl _ _).alloc (Nat.le_refl _) _
  have H0 := heap_new_at w (.cells (portC d A) 44) _ rfl
  have hap := own_ty_apart hx hy (by decide)
  have ox := hx.alloc (.cells (portC d A) 44)
  have oy := hy.alloc (.cells (portC d A) 44)
  go_enter Try.func41, Try.ntmps41
  go_wp2_with (first
    | (refine wpList_load_box _ rfl (by rfl) (b := w.heap.size) (off := 5) (n := 5) rfl H0 Try.underlying40 (by kernel_rfl) (Nat.le_of_ble_eq_true rfl) (#[.int .i64 d.r, .int .i64 d.t, .slice A.ax d.gs.length A.cx, .bool d.l, .int .i64 d.ag]) rfl ?_))
  refine (markReceiver_any B d.r d.t d.l d.ag A.ax d.gs.length A.cx k0 vs _ ox (by omega) (by omega)).mono ?_
  rintro e w1 ⟨rfl, ox1, g1⟩
  have oy1 := own_sep oy hap.symm g1
  have H1 := box_grow H0 g1 (own_block_of (own_box_ne ox H0 (by decide)))
  have f1 := (Off.below [] b0).trans (Off.row g1)
  clear ox oy g1
  go_wp2_with (first
    | (refine wpList_load_box _ rfl (by rfl) (b := w.heap.size) (off := 10) (n := 4) rfl H1 Try.underlying41 (by kernel_rfl) (Nat.le_of_ble_eq_true rfl) (#[.int .i64 d.sr, .slice A.ay d.ys.length A.cy, .int .i64 d.sh, .int .i64 d.sl]) rfl ?_))
  refine (markSender_any B d.sr d.sh d.sl A.ay d.ys.length A.cy (k0 + ((d.gs.length : Int) * 2)) us w1 oy1 (by omega) (by omega)).mono ?_
  rintro e w2 ⟨rfl, oy2, g2⟩
  have ox2 := own_sep ox1 hap g2
  have f2 := f1.trans (Off.row g2)
  go_wp2
  go_ret
  exact ⟨rfl, ox2, oy2, f2⟩
set_option maxHeartbeats 4000000 in
set_option maxRecDepth 100000 in
theorem markDriver_any (d : DrvD) (A : DrvA) (B : Nat) (k0 : Int) (w : World) (hO : DrvO w B d A) (hS : DrvS A) (h0 : 0 ≤ k0) (h1 : drvN d k0 ≤ 4611686018427387904) :
    Calls Try.prog 17 #[.agg (drvC d A), .int .i64 k0] w fun e w' => e = .returned (.int .i64 (drvN d k0)) ∧ MarkO w' B d A k0 ∧ Off (drvR A) w w' := by
  unfold drvN at h1
  have b0 : Below w.heap.size w (w.alloc (.cells (drvC d A) 46)) := (Below.refl _ _).alloc (Nat.le_refl _) _
  have H0 := heap_new_at w (.cells (drvC d A) 46) _ rfl
  have axi := own_ty_apart hO.1 hO.2.2.1 (by decide)
  have axo := own_ty_apart hO.1 hO.2.2.2 (by decide)
  obtain ⟨hx, hy, hi, ho⟩ := hO
  have ox := hx.alloc (.cells (drvC d A) 46)
  have oy := hy.alloc (.cells (drvC d A) 46)
  have oi := hi.alloc (.cells (drvC d A) 46)
  have oo := ho.alloc (.cells (drvC d A) 46)
  obtain ⟨ayi, ayo, aio⟩ := hS
  go_enter Try.func17, Try.ntmps17
  go_wp2_with (first
    | (refine wpList_load_box _ rfl (by rfl) (b := w.heap.size) (off := 0) (n := 18) rfl H0 Try.underlying44 (by kernel_rfl) (Nat.le_of_ble_eq_true rfl) (portC d.p A.p) rfl ?_))
  refine (markPort_any d.p A.p B k0 _ _ _ ox oy (by omega) (by omega)).mono ?_
  rintro e w1 ⟨rfl, ox1, oy1, f1⟩
  have oi1 := own_off oi f1 (by intro a ha; simp at ha; rcases ha with rfl | rfl; exact axi.symm; exact ayi.symm)
  have oo1 := own_off oo f1 (by intro a ha; simp at ha; rcases ha with rfl | rfl; exact axo.symm; exact ayo.symm)
  have H1 := Off.box H0 f1 (by intro a ha; simp at ha; rcases ha with rfl | rfl; exact own_box_ne ox H0 (by decide); exact own_box_ne oy H0 (by decide))
  have F1 := (Off.below [] b0).trans f1
  clear f1 ox oy oi oo
  have c18 := box_cell H1 18 (v := .slice A.ai d.i.length A.ci) rfl
  go_wp2_with fail
  refine (markIntS_any B A.ai d.i.length A.ci (k0 + ((d.p.gs.length : Int) * 2) + (d.p.ys.length : Int)) _ w1 oi1 (by omega) (by omega)).mono ?_
  rintro e w2 ⟨rfl, oi2, g2⟩
  have ox2 := own_sep ox1 axi g2
  have oy2 := own_sep oy1 ayi g2
  have oo2 := own_sep oo1 aio.symm g2
  have H2 := box_grow H1 g2 (own_block_of (own_box_ne oi1 H1 (by decide)))
  have F2 := F1.trans (Off.row g2)
  clear c18 g2 ox1 oy1 oi1 oo1
  have c19 := box_cell H2 19 (v := .slice A.ao d.o.length A.co) rfl
  go_wp2_with fail
  refine (markIntS_any B A.ao d.o.length A.co (k0 + ((d.p.gs.length : Int) * 2) + (d.p.ys.length : Int) + (d.i.length : Int)) _ w2 oo2 (by omega) (by omega)).mono ?_
  rintro e w3 ⟨rfl, oo3, g3⟩
  have F3 := F2.trans (Off.row g3)
  have ox3 := own_sep ox2 axo g3
  have oy3 := own_sep oy2 ayo g3
  have oi3 := own_sep oi2 aio g3
  go_wp2
  go_ret
  exact ⟨rfl, ⟨ox3, oy3, oi3, oo3⟩, F3⟩
set_option maxHeartbeats 4000000 in
set_option maxRecDepth 100000 in
theorem heldPort_any (d : PortD) (A : PortA) (k0 : Int) (w : World) (hx : Cells w A.ax (marks k0 (d.gs.length * 2))) (hy : Cells w A.ay (marks (k0 + ((d.gs.length : Int) * 2)) d.ys.length)) (h0 : 0 ≤ k0) (h1 : k0 + (d.gs.length * 2) + d.ys.length ≤ 4611686018427387904) :
    Calls Try.prog 42 #[.agg (portC d A), .int .i64 k0] w fun e w' => e = .returned (.int .i64 (k0 + ((d.gs.length : Int) * 2) + (d.ys.length : Int))) ∧ Below w.heap.size w w' := by
  have b0 : Below w.heap.size w (w.alloc (.cells (portC d A) 44)) := (Below.refl _ _).alloc (Nat.le_refl _) _
  have H0 := heap_new_at w (.cells (portC d A) 44) _ rfl
  have hx0 := hx.below b0
  have hy0 := hy.below b0
  go_enter Try.func42, Try.ntmps42
  go_wp2_with (first
    | (refine wpList_load_box _ rfl (by rfl) (b := w.heap.size) (off := 5) (n := 5) rfl H0 Try.underlying40 (by kernel_rfl) (Nat.le_of_ble_eq_true rfl) (#[.int .i64 d.r, .int .i64 d.t, .slice A.ax d.gs.length A.cx, .bool d.l, .int .i64 d.ag]) rfl ?_))
  refine (heldReceiver_any d.r d.t d.l d.ag A.ax d.gs.length A.cx k0 _ hx0 (by omega) (by omega)).mono ?_
  rintro e w1 ⟨rfl, b1⟩
  have H1 := (b1.block _ (box_lt H0)).trans H0
  have hy1 := hy0.below b1
  have B1 := below_join b0 b1
  go_wp2_with (first
    | (refine wpList_load_box _ rfl (by rfl) (b := w.heap.size) (off := 10) (n := 4) rfl H1 Try.underlying41 (by kernel_rfl) (Nat.le_of_ble_eq_true rfl) (#[.int .i64 d.sr, .slice A.ay d.ys.length A.cy, .int .i64 d.sh, .int .i64 d.sl]) rfl ?_))
  refine (heldSender_any d.sr d.sh d.sl A.ay d.ys.length A.cy (k0 + ((d.gs.length : Int) * 2)) w1 hy1 (by omega) (by omega)).mono ?_
  rintro e w2 ⟨rfl, b2⟩
  go_wp2
  go_ret
  exact ⟨rfl, below_join B1 b2⟩
set_option maxHeartbeats 4000000 in
set_option maxRecDepth 100000 in
theorem heldDriver_any (d : DrvD) (A : DrvA) (k0 : Int) (w : World) (hM : HeldM w d A k0) (h0 : 0 ≤ k0) (h1 : drvN d k0 ≤ 4611686018427387904) :
    Calls Try.prog 19 #[.agg (drvC d A), .int .i64 k0] w fun e w' => e = .returned (.int .i64 (drvN d k0)) ∧ Below w.heap.size w w' := by
  unfold drvN at h1
  have b0 : Below w.heap.size w (w.alloc (.cells (drvC d A) 46)) := (Below.refl _ _).alloc (Nat.le_refl _) _
  have H0 := heap_new_at w (.cells (drvC d A) 46) _ rfl
  have M0 := hM.below b0
  go_enter Try.func19, Try.ntmps19
  go_wp2_with (first
    | (refine wpList_load_box _ rfl (by rfl) (b := w.heap.size) (off := 0) (n := 18) rfl H0 Try.underlying44 (by kernel_rfl) (Nat.le_of_ble_eq_true rfl) (portC d.p A.p) rfl ?_))
  refine (heldPort_any d.p A.p k0 _ M0.1 M0.2.1 (by omega) (by omega)).mono ?_
  rintro e w1 ⟨rfl, b1⟩
  have H1 := (b1.block _ (box_lt H0)).trans H0
  have M1 := M0.below b1
  have B1 := below_join b0 b1
  have c18 := box_cell H1 18 (v := .slice A.ai d.i.length A.ci) rfl
  go_wp2_with fail
  refine (heldIntS_below A.ai d.i.length A.ci (k0 + ((d.p.gs.length : Int) * 2) + (d.p.ys.length : Int)) w1 M1.2.2.1 (by omega) (by omega)).mono ?_
  rintro e w2 ⟨rfl, b2⟩
  have H2 := (b2.block _ (box_lt H1)).trans H1
  have M2 := M1.below b2
  have B2 := below_join B1 b2
  clear c18
  have c19 := box_cell H2 19 (v := .slice A.ao d.o.length A.co) rfl
  go_wp2_with fail
  refine (heldIntS_below A.ao d.o.length A.co (k0 + ((d.p.gs.length : Int) * 2) + (d.p.ys.length : Int) + (d.i.length : Int)) w2 M2.2.2.2 (by omega) (by omega)).mono ?_
  rintro e w3 ⟨rfl, b3⟩
  go_wp2
  go_ret
  exact ⟨rfl, below_join B2 b3⟩
end Go.Proofs.Ytkmampichfbppaa
