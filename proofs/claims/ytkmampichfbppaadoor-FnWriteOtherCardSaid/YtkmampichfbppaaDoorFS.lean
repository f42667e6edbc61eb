/- A draw that fills a local struct: the reader, the result's block, the struct's block, a row of memory. -/
import Derived.Test.YtkmampichfbppaaDoorBox2
import Derived.Test.YtkmampichfbppaaDoorBoxRd
namespace Go.Proofs.YtkmampichfbppaaDoor
open Go.RowKit

/-- The state of a draw: w the world ahead, W the world now; rb the reader; the result's block (w.heap.size) holds z; block b the struct's cells; the row a. -/
structure FS (w W : World) (rb b M : Nat) (z cs : Array Value) (T e : TypeId) (size : Nat) (a : Option Addr) (n c : Nat) (vs : List Value) : Prop where
  rl : rb < w.heap.size
  bl : w.heap.size < b
  ne : e ≠ T
  R : Rd W rb M
  G : w.grownBy W (some rb)
  H0 : W.heap[w.heap.size]? = some (.cells z T (0, 0))
  H : W.heap[b]? = some (.cells cs T (0, 0))
  o : W.ownsRow (w.heap.size + 1) e size (.slice a n c) n vs
section
variable {w W W' : World} {rb b M M' : Nat} {z cs : Array Value} {T e : TypeId} {size : Nat} {a : Option Addr} {n c : Nat} {vs : List Value}
theorem FS.mono (h : FS w W rb b M z cs T e size a n c vs) (hm : M ≤ M') : FS w W rb b M' z cs T e size a n c vs := { h with R := h.R.mono hm }
theorem FS.pick (h : FS w W rb b M z cs T e size a n c vs) (R' : Rd W' rb M') (g : W.grownBy W' (some rb)) : FS w W' rb b M' z cs T e size a n c vs :=
  { rl := h.rl, bl := h.bl, ne := h.ne, R := R', G := only_trans h.G g, H0 := box_only h.H0 g h.rl, H := box_only h.H g (Nat.lt_trans h.rl h.bl), o := own_only h.o g (fun q hq => by have := (own_in h.o _ hq).1; have := h.rl; simp at *; omega) }
theorem FS.alloc (h : FS w W rb b M z cs T e size a n c vs) (ob : Obj) : FS w (W.alloc ob) rb b M z cs T e size a n c vs :=
  { rl := h.rl, bl := h.bl, ne := h.ne, R := rd_alloc h.R ob, G := only_alloc h.G ob, H0 := box_alloc h.H0 ob, H := box_alloc h.H ob, o := World.ownsRow.alloc h.o ob }
theorem FS.drew (h : FS w W rb b M z cs T e size a n c vs) : FS w W.drew rb b M z cs T e size a n c vs :=
  { rl := h.rl, bl := h.bl, ne := h.ne, R := h.R.below (Below.refl _ _).drew, G := only_drew h.G, H0 := h.H0, H := h.H, o := h.o }
theorem cells_set {v : World} {b i : Nat} {cs : Array Value} {T : TypeId} (h : v.heap[b]? = some (.cells cs T (0, 0))) (u : Value) : (v.setCell ⟨b, i, none⟩ u).heap[b]? = some (.cells (cs.setIfInBounds i u) T (0, 0)) := by
  simp [World.setCell, Array.getElem?_modify, h]
theorem FS.set (h : FS w W rb b M z cs T e size a n c vs) (i : Nat) (u : Value) : FS w (W.setCell ⟨b, i, none⟩ u) rb b M z (cs.setIfInBounds i u) T e size a n c vs :=
  { rl := h.rl, bl := h.bl, ne := h.ne, R := rd_set h.R _ _ (Nat.lt_trans h.rl h.bl), G := only_set h.G _ _ (Nat.le_of_lt h.bl), H0 := box_set h.H0 _ _ (Nat.ne_of_lt h.bl), H := cells_set h.H u, o := own_set_ne h.o _ _ (own_box_ne h.o h.H h.ne) }
theorem FS.grow (h : FS w W rb b M z cs T e size a n c vs) {a' : Option Addr} {n' c' : Nat} {vs' : List Value} (o' : W'.ownsRow (w.heap.size + 1) e size (.slice a' n' c') n' vs') (g : W.grownBy W' (Value.slice a n c).ownBlock) : FS w W' rb b M z cs T e size a' n' c' vs' := by
  have hk : ∀ k, (Value.slice a n c).ownBlock = some k → w.heap.size + 1 ≤ k := fun k hk => (h.o.lt k hk).1
  have rl := h.rl
  exact { rl := h.rl, bl := h.bl, ne := h.ne, R := h.R.grown g (fun k e => by have := hk k e; omega), G := only_grown h.G g (fun k e => by have := hk k e; omega), H0 := box_grow h.H0 g (fun k e => by have := hk k e; omega), H := box_grow h.H g (own_block_of (own_box_ne h.o h.H h.ne)), o := o' }
theorem FS.blt (h : FS w W rb b M z cs T e size a n c vs) : b < W.heap.size := box_lt h.H
theorem FS.zlt (h : FS w W rb b M z cs T e size a n c vs) : w.heap.size < W.heap.size := box_lt h.H0
/-- The draw's end: the struct is stored into the result's block. -/
theorem FS.fin (h : FS w W rb b M z cs T e size a n c vs) (g : W.grownBy W' (some w.heap.size)) : Rd W' rb M ∧ w.grownBy W' (some rb) ∧ W'.ownsRow w.heap.size e size (.slice a n c) n vs :=
  ⟨h.R.grown g (fun k e => by injection e with e; subst e; exact h.rl), only_grown h.G g (fun k e => by injection e with e; omega), own_base (own_only h.o g (fun q hq => by have := (own_in h.o _ hq).1; simp at this; omega)) (Nat.le_succ _)⟩
end
/-- The state of a draw that opens its own reader: the result's block (w.heap.size) holds z; then the reader rb; block b the struct's cells; the row a. -/
structure DS (w W : World) (rb b M : Nat) (z cs : Array Value) (T e : TypeId) (size : Nat) (a : Option Addr) (n c : Nat) (vs : List Value) : Prop where
  zr : w.heap.size < rb
  rl : rb < b
  ne : e ≠ T
  nr : e ≠ 67
  R : Rd W rb M
  B : Below w.heap.size w W
  H0 : W.heap[w.heap.size]? = some (.cells z T (0, 0))
  H : W.heap[b]? = some (.cells cs T (0, 0))
  o : W.ownsRow w.heap.size e size (.slice a n c) n vs
theorem own_rd_ne {w : World} {rb M base e size n c : Nat} {ao : Option Addr} {vs : List Value} (R : Rd w rb M) (h : w.ownsRow base e size (.slice ao n c) n vs) (ht : e ≠ 67) : ∀ q, ao = some q → q.block ≠ rb := by
  obtain ⟨_, _, _, _, hh, _⟩ := R
  exact own_box_ne h hh ht
section
variable {w W W' : World} {rb b M M' : Nat} {z cs : Array Value} {T e : TypeId} {size : Nat} {a : Option Addr} {n c : Nat} {vs : List Value}
theorem DS.pick (h : DS w W rb b M z cs T e size a n c vs) (R' : Rd W' rb M') (g : W.grownBy W' (some rb)) : DS w W' rb b M' z cs T e size a n c vs :=
  { zr := h.zr, rl := h.rl, ne := h.ne, nr := h.nr, R := R', B := below_only h.B g (Nat.le_of_lt h.zr), H0 := box_only' h.H0 g (Nat.ne_of_lt h.zr), H := box_only h.H g h.rl, o := own_only h.o g (fun _ hq => own_rd_ne h.R h.o h.nr _ hq) }
theorem DS.alloc (h : DS w W rb b M z cs T e size a n c vs) (ob : Obj) : DS w (W.alloc ob) rb b M z cs T e size a n c vs :=
  { zr := h.zr, rl := h.rl, ne := h.ne, nr := h.nr, R := rd_alloc h.R ob, B := h.B.alloc h.B.size ob, H0 := box_alloc h.H0 ob, H := box_alloc h.H ob, o := World.ownsRow.alloc h.o ob }
theorem DS.drew (h : DS w W rb b M z cs T e size a n c vs) : DS w W.drew rb b M z cs T e size a n c vs :=
  { zr := h.zr, rl := h.rl, ne := h.ne, nr := h.nr, R := h.R.below (Below.refl _ _).drew, B := h.B.drew, H0 := h.H0, H := h.H, o := h.o }
theorem DS.set (h : DS w W rb b M z cs T e size a n c vs) (i : Nat) (u : Value) : DS w (W.setCell ⟨b, i, none⟩ u) rb b M z (cs.setIfInBounds i u) T e size a n c vs :=
  { zr := h.zr, rl := h.rl, ne := h.ne, nr := h.nr, R := rd_set h.R _ _ h.rl, B := h.B.setCell (Nat.le_of_lt (Nat.lt_trans h.zr h.rl)) _, H0 := box_set h.H0 _ _ (Nat.ne_of_lt (Nat.lt_trans h.zr h.rl)), H := cells_set h.H u, o := own_set_ne h.o _ _ (own_box_ne h.o h.H h.ne) }
theorem DS.blt (h : DS w W rb b M z cs T e size a n c vs) : b < W.heap.size := box_lt h.H
theorem DS.zlt (h : DS w W rb b M z cs T e size a n c vs) : w.heap.size < W.heap.size := box_lt h.H0
theorem DS.fin (h : DS w W rb b M z cs T e size a n c vs) (g : W.grownBy W' (some w.heap.size)) : Below w.heap.size w W' ∧ W'.ownsRow w.heap.size e size (.slice a n c) n vs :=
  ⟨below_only h.B g (Nat.le_refl _), own_only h.o g (fun _ hq => own_box_ne h.o h.H0 h.ne _ hq)⟩
end
theorem own_grow {w w' : World} {base e size n c : Nat} {ao : Option Addr} {vs : List Value} {row : Option Nat} (h : w.ownsRow base e size (.slice ao n c) n vs) (g : w.grownBy w' row) (hne : ∀ q k, ao = some q → row = some k → q.block ≠ k) : w'.ownsRow base e size (.slice ao n c) n vs := by
  refine ⟨h.1, ?_⟩
  rcases h.2 with hn | ⟨gb, cap, cur, hv, hb, hh, rest⟩
  · exact .inl hn
  · have hao : ao = some ⟨gb, 0, none⟩ := by injection hv
    exact .inr ⟨gb, cap, cur, hv, hb, (g.block gb (Array.getElem?_eq_some_iff.1 hh).1 (fun e => hne _ _ hao e.symm rfl)).trans hh, rest⟩
/-- Another row that lies behind the struct's block has grown or was written. -/
theorem DS.far {w W W' : World} {rb b M : Nat} {z cs : Array Value} {T e : TypeId} {size : Nat} {a : Option Addr} {n c : Nat} {vs : List Value} {row : Option Nat} (h : DS w W rb b M z cs T e size a n c vs) (ha : ∀ q, a = some q → q.block < b) (g : W.grownBy W' row) (hr : ∀ k, row = some k → b < k) : DS w W' rb b M z cs T e size a n c vs := by
  have h1 := h.zr
  have h2 := h.rl
  exact { zr := h.zr, rl := h.rl, ne := h.ne, nr := h.nr, R := h.R.grown g (fun k hk => by have := hr k hk; omega), B := h.B.grown g h.B.size (fun k hk => by have := hr k hk; omega), H0 := box_grow h.H0 g (fun k hk => by have := hr k hk; omega), H := box_grow h.H g (fun k hk => by have := hr k hk; omega), o := own_grow h.o g (fun q k hq hk => by have := hr k hk; have := ha q hq; omega) }
theorem DS.mono {w W : World} {rb b M M' : Nat} {z cs : Array Value} {T e : TypeId} {size : Nat} {a : Option Addr} {n c : Nat} {vs : List Value} (h : DS w W rb b M z cs T e size a n c vs) (hm : M ≤ M') : DS w W rb b M' z cs T e size a n c vs := { h with R := h.R.mono hm }
theorem DS.fin2 {w W W' : World} {rb b M : Nat} {z cs : Array Value} {T e : TypeId} {size : Nat} {a : Option Addr} {n c : Nat} {vs : List Value} {e2 : TypeId} {size2 n2 c2 : Nat} {a2 : Option Addr} {vs2 : List Value} (h : DS w W rb b M z cs T e size a n c vs) (o' : W.ownsRow (b + 1) e2 size2 (.slice a2 n2 c2) n2 vs2) (g : W.grownBy W' (some w.heap.size)) :
    W'.ownsRow w.heap.size e size (.slice a n c) n vs ∧ W'.ownsRow w.heap.size e2 size2 (.slice a2 n2 c2) n2 vs2 ∧ Below w.heap.size w W' := by
  have h1 := h.zr
  have h2 := h.rl
  exact ⟨(DS.fin h g).2, own_base (own_only o' g (fun q hq => by have := (own_in o' _ hq).1; simp at this; omega)) (by omega), (DS.fin h g).1⟩
end Go.Proofs.YtkmampichfbppaaDoor
