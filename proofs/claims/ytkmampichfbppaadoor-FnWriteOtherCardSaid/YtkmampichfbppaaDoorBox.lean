/- Local structs as blocks, rows apart from each other: words for the walks of this seat. -/
import Derived.Test.YtkmampichfbppaaDoorBytes
import Derived.Deep.RegionHeld3
namespace Go.Proofs.YtkmampichfbppaaDoor
open Go.RowKit

theorem heap_new_at (w : World) (o : Obj) (g : Nat) (h : g = w.heap.size) : (w.alloc o).heap[g]? = some o := h ▸ heap_alloc_new w o
theorem two_cells {w : World} {b : Nat} {u v : Value} {t : TypeId} (h : w.heap[b]? = some (.cells #[u, v] t (0, 0))) : w.cell? ⟨b, 0, none⟩ = some u ∧ w.cell? ⟨b, 1, none⟩ = some v ∧ w.frozen? ⟨b, 0, none⟩ = false ∧ w.frozen? ⟨b, 1, none⟩ = false := by
  simp [World.cell?, World.frozen?, h]
theorem two_set {w : World} {b : Nat} {u v : Value} {t : TypeId} (h : w.heap[b]? = some (.cells #[u, v] t (0, 0))) (x y : Value) : ((w.setCell ⟨b, 0, none⟩ x).setCell ⟨b, 1, none⟩ y).heap[b]? = some (.cells #[x, y] t (0, 0)) := by
  simp [World.setCell, Array.getElem?_modify, h]
theorem ints_nil_cap {w : World} {ao : Option Addr} {xs : List Int} {c : Nat} (hx : Ints w ao xs) (h0 : 0 < xs.length) : ao = none → xs.length = 0 ∧ c = 0 := by
  rintro rfl
  rcases hx with h | ⟨b, off, h, _⟩
  · simp at h; subst h; simp at h0
  · cases h
theorem three_cells {w : World} {b : Nat} {u v x : Value} {t : TypeId} (h : w.heap[b]? = some (.cells #[u, v, x] t (0, 0))) :
    w.cell? ⟨b, 0, none⟩ = some u ∧ w.cell? ⟨b, 1, none⟩ = some v ∧ w.cell? ⟨b, 2, none⟩ = some x ∧ w.frozen? ⟨b, 0, none⟩ = false ∧ w.frozen? ⟨b, 1, none⟩ = false ∧ w.frozen? ⟨b, 2, none⟩ = false := by
  simp [World.cell?, World.frozen?, h]
/-- Two rows in two blocks. -/
def Apart (ao bo : Option Addr) : Prop := ∀ a b, ao = some a → bo = some b → a.block ≠ b.block
theorem apart_none (bo : Option Addr) : Apart none bo := fun _ _ h => by cases h
theorem Apart.symm {ao bo : Option Addr} (h : Apart ao bo) : Apart bo ao := fun a b ha hb e => h b a hb ha e.symm
theorem In.apart {lo hi lo2 hi2 : Nat} {ao bo : Option Addr} (h : In lo hi ao) (k : In lo2 hi2 bo) (hd : hi ≤ lo2 ∨ hi2 ≤ lo) : Apart ao bo := fun a b ha hb e => by
  have := h a ha
  have := k b hb
  omega
theorem own_sep {w w' : World} {base e size n c n2 c2 : Nat} {ao ao2 : Option Addr} {vs : List Value} (h : w.ownsRow base e size (.slice ao n c) n vs) (hd : Apart ao ao2) (hg : w.grownBy w' (Value.slice ao2 n2 c2).ownBlock) :
    w'.ownsRow base e size (.slice ao n c) n vs := by
  refine ⟨h.1, ?_⟩
  rcases h.2 with hn | ⟨g, cap, cur, hv, hb, hh, rest⟩
  · exact .inl hn
  · have hao : ao = some ⟨g, 0, none⟩ := by injection hv
    refine .inr ⟨g, cap, cur, hv, hb, (hg.block g (Array.getElem?_eq_some_iff.1 hh).1 fun e => ?_).trans hh, rest⟩
    cases ao2 with
    | none => simp [Value.ownBlock] at e
    | some a2 =>
      simp only [Value.ownBlock, Option.some.injEq] at e
      exact hd _ _ hao rfl e
theorem own_nil (w : World) (B : Nat) : OwnI w B none 0 [] := World.ownsRow_nil _ _ _ _
theorem box_mark {w w' : World} {b lo hi n c : Nat} {ao : Option Addr} {o : Obj} (h : w.heap[b]? = some o) (i : In lo hi ao) (hd : b < lo ∨ hi ≤ b) (hg : w.grownBy w' (Value.slice ao n c).ownBlock) : w'.heap[b]? = some o := by
  refine (hg.block b (Array.getElem?_eq_some_iff.1 h).1 fun e => ?_).trans h
  cases ao with
  | none => simp [Value.ownBlock] at e
  | some a =>
    simp only [Value.ownBlock, Option.some.injEq] at e
    have := i a rfl
    omega
theorem cells3 {w : World} {b : Nat} {u v x : Value} {t : TypeId} (h : w.heap[b]? = some (.cells #[u, v, x] t (0, 0))) : w.cell? ⟨b, 0, none⟩ = some u ∧ w.cell? ⟨b, 1, none⟩ = some v ∧ w.cell? ⟨b, 2, none⟩ = some x := by
  simp [World.cell?, h]
theorem own_capmax {w : World} {base e size n c : Nat} {ao : Option Addr} {vs : List Value} (h : w.ownsRow base e size (.slice ao n c) n vs) : c ≤ 9223372036854775807 := by
  rcases h.2 with ⟨hv, _⟩ | ⟨g, cap, cur, hv, _, _, _, hm, _⟩
  · have : c = 0 := by injection hv
    omega
  · have : c = cap := by injection hv
    unfold maxLen at hm
    omega
def noInts : List Int := []
theorem noInts_len : noInts.length ≤ 0 := Nat.le_refl _
theorem box_only {w w' : World} {b rb : Nat} {o : Obj} (h : w.heap[b]? = some o) (g : w.grownBy w' (some rb)) (hb : rb < b) : w'.heap[b]? = some o :=
  (g.block b (Array.getElem?_eq_some_iff.1 h).1 (fun e => by injection e; omega)).trans h
theorem box_only' {w w' : World} {b rb : Nat} {o : Obj} (h : w.heap[b]? = some o) (g : w.grownBy w' (some rb)) (hb : b ≠ rb) : w'.heap[b]? = some o :=
  (g.block b (Array.getElem?_eq_some_iff.1 h).1 (fun e => by injection e; omega)).trans h
theorem box_lt {w : World} {b : Nat} {o : Obj} (h : w.heap[b]? = some o) : b < w.heap.size := (Array.getElem?_eq_some_iff.1 h).1
theorem three_set0 {w : World} {b : Nat} {u v x : Value} {t : TypeId} (h : w.heap[b]? = some (.cells #[u, v, x] t (0, 0))) (y : Value) : (w.setCell ⟨b, 0, none⟩ y).heap[b]? = some (.cells #[y, v, x] t (0, 0)) := by
  simp [World.setCell, Array.getElem?_modify, h]
theorem three_set1 {w : World} {b : Nat} {u v x : Value} {t : TypeId} (h : w.heap[b]? = some (.cells #[u, v, x] t (0, 0))) (y : Value) : (w.setCell ⟨b, 1, none⟩ y).heap[b]? = some (.cells #[u, y, x] t (0, 0)) := by
  simp [World.setCell, Array.getElem?_modify, h]
theorem three_set2 {w : World} {b : Nat} {u v x : Value} {t : TypeId} (h : w.heap[b]? = some (.cells #[u, v, x] t (0, 0))) (y : Value) : (w.setCell ⟨b, 2, none⟩ y).heap[b]? = some (.cells #[u, v, y] t (0, 0)) := by
  simp [World.setCell, Array.getElem?_modify, h]
theorem box_set {w : World} {b : Nat} {o : Obj} (h : w.heap[b]? = some o) (a : Addr) (u : Value) (hb : b ≠ a.block) : (w.setCell a u).heap[b]? = some o := (Below.heap_setCell w a u b hb).trans h
theorem box_alloc {w : World} {b : Nat} {o : Obj} (h : w.heap[b]? = some o) (p : Obj) : (w.alloc p).heap[b]? = some o := (Below.heap_alloc w p b (box_lt h)).trans h
theorem only_set {w0 w : World} {rb : Nat} (h : w0.grownBy w (some rb)) (a : Addr) (u : Value) (hb : w0.heap.size ≤ a.block) : w0.grownBy (w.setCell a u) (some rb) := only_grown h (grown_set w a u) (fun g hg => by injection hg; omega)
theorem only_alloc {w0 w : World} {rb : Nat} (h : w0.grownBy w (some rb)) (o : Obj) : w0.grownBy (w.alloc o) (some rb) := only_grown h (row := none) (only_below ((Below.refl _ _).alloc (Nat.le_refl _) o) none) (fun g hg => by cases hg)
theorem cells_only {w w' : World} {g off rb : Nat} {vs : List Value} (h : Cells w (some ⟨g, off, none⟩) vs) (gr : w.grownBy w' (some rb)) (_hg : rb < g) : Cells w' (some ⟨g, off, none⟩) vs := by
  rcases h with h | ⟨b, o, h, hc⟩
  · exact .inl h
  · refine .inr ⟨b, o, h, fun j u hu => ?_⟩
    injection h with h
    injection h with h1 h2 h3
    subst h1 h2
    exact gr.cell (hc j u hu) (by simp; omega)
theorem own_set_ne {w : World} {base e size n c : Nat} {ao : Option Addr} {vs : List Value} (h : w.ownsRow base e size (.slice ao n c) n vs) (a : Addr) (u : Value) (hne : ∀ q, ao = some q → q.block ≠ a.block) : (w.setCell a u).ownsRow base e size (.slice ao n c) n vs :=
  own_only h (grown_set w a u) fun _ hg => hne _ hg
theorem ints_new (w : World) (xs : List Int) (cs : Array Value) (t : TypeId) (hcs : cs.toList = xs.map (Value.int .i64)) : Ints (w.alloc (.cells cs t)) (some ⟨w.heap.size, 0, none⟩) xs := by
  have := cells_new w cs t rfl
  rw [hcs] at this
  exact this
theorem below_alloc3 {w0 w : World} (h : Below w0.heap.size w0 w) (o : Obj) : Below w0.heap.size w0 (w.alloc o) := h.alloc h.size o
theorem OwnI.put {w : World} {base c : Nat} {ao : Option Addr} {L : List Int} (h : OwnI w base ao c L) {k : Nat} (hk : k < L.length) (n : Int) :
    ∃ g u, ao = some ⟨g, 0, none⟩ ∧ base ≤ g ∧ g < w.heap.size ∧ w.cell? ⟨g, k, none⟩ = some u ∧ w.frozen? ⟨g, k, none⟩ = false ∧ OwnI (w.setCell ⟨g, k, none⟩ (.int .i64 n)) base ao c (L.set k n) := by
  rcases own_head h with ⟨_, h0, _⟩ | ⟨g, rfl, hgb, hgs⟩
  · omega
  obtain ⟨u, hu⟩ := own_cell_ex h (j := k) (by omega)
  obtain ⟨h1, h2⟩ := h.stored k (.int .i64 n)
  refine ⟨g, u, rfl, hgb, hgs, hu, h.frozenAt _, ?_⟩
  unfold OwnI
  rw [List.length_set, List.map_set]
  exact h1
theorem ints_grow {w w' : World} {ao : Option Addr} {xs : List Int} {g n c : Nat} (h : Ints w ao xs) (hg : w.grownBy w' (Value.slice (some ⟨g, 0, none⟩) n c).ownBlock) (hne : ∀ q, ao = some q → q.block ≠ g) : Ints w' ao xs := by
  rcases h with h | ⟨b, off, h, hc⟩
  · exact .inl h
  · refine .inr ⟨b, off, h, fun j u hu => hg.cell (hc j u hu) ?_⟩
    have := hne _ h
    simp [Value.ownBlock]
    exact this
theorem ints_lt {w : World} {ao : Option Addr} {x : Int} {l : List Int} (h : Ints w ao (x :: l)) : ∀ q, ao = some q → q.block < w.heap.size := by
  intro q hq
  obtain ⟨b, off, y, h1, _, hc⟩ := h.at_ (k := 0) (by simp)
  rw [hq] at h1
  injection h1 with h1
  subst h1
  exact World.block_lt_of_cell? w _ hc
/-- append at a guarded operation whose guard holds. -/
theorem wpList_append_row_g {P : Program} (w : World) {ops : Array Oper} {rest : List Oper} {o : Oper} {a : Act} {Q : Exit → Act → World → Prop}
    (hw : Region.wanted o (yielded ops a.tmps) = true) (s x : Operand) (t : TypeId) (ho : o.op = .call { callee := .builtin .append, args := #[s, x], argTypes := #[t, t] })
    (base : Nat) (e : TypeId) (z : Value) (size bytes : Nat) (ht : P.underlying t = some (.slice e)) (hi : (P.info? e).map (fun i => (i.zero, i.size, i.bytes)) = some (some z, size, bytes))
    (hzs : z.cells.size = size) (hsz : 0 < size)
    (ao : Option Addr) (n c : Nat) (xs : List Value) (hs : a.eval s = .slice ao n c) (hown : w.ownsRow base e size (.slice ao n c) n xs)
    (A : Option Addr) (m d : Nat) (news : List Value) (hx : a.eval x = .slice A m d) (hnews : Cells w A news) (hlen : news.length = m * size) (h1 : ∀ u ∈ news, u.oneCell' = true)
    (hA : A = none → m = 0 ∧ d = 0)
    (h63 : n + m ≤ maxLen) (hbytes : (n + m) * bytes ≤ 140737488355328) (hbase : base ≤ w.heap.size)
    (h : ∀ ao' c' w', w'.ownsRow base e size (.slice ao' (n + m) c') (n + m) (xs ++ news) → w.grownBy w' (Value.slice ao n c).ownBlock → wpList P ops Q rest (a.put o.dst (.slice ao' (n + m) c')) w') : wpList P ops Q (o :: rest) a w := by
  unfold wpList
  rw [if_pos hw]
  exact .inl (wp_append_row w s x t ho base e z size bytes ht hi hzs hsz ao n c xs hs hown A m d news hx hnews hlen h1 hA h63 hbytes hbase h)
theorem four_cells {w : World} {b : Nat} {u v x y : Value} {t : TypeId} (h : w.heap[b]? = some (.cells #[u, v, x, y] t (0, 0))) :
    w.cell? ⟨b, 0, none⟩ = some u ∧ w.cell? ⟨b, 1, none⟩ = some v ∧ w.cell? ⟨b, 2, none⟩ = some x ∧ w.cell? ⟨b, 3, none⟩ = some y ∧ w.frozen? ⟨b, 0, none⟩ = false ∧ w.frozen? ⟨b, 1, none⟩ = false ∧ w.frozen? ⟨b, 2, none⟩ = false ∧ w.frozen? ⟨b, 3, none⟩ = false := by
  simp [World.cell?, World.frozen?, h]
theorem cells4 {w : World} {b : Nat} {u v x y : Value} {t : TypeId} (h : w.heap[b]? = some (.cells #[u, v, x, y] t (0, 0))) : w.cell? ⟨b, 0, none⟩ = some u ∧ w.cell? ⟨b, 1, none⟩ = some v ∧ w.cell? ⟨b, 2, none⟩ = some x ∧ w.cell? ⟨b, 3, none⟩ = some y := by
  simp [World.cell?, h]
theorem cells2 {w : World} {b : Nat} {u v : Value} {t : TypeId} (h : w.heap[b]? = some (.cells #[u, v] t (0, 0))) : w.cell? ⟨b, 0, none⟩ = some u ∧ w.cell? ⟨b, 1, none⟩ = some v := by
  simp [World.cell?, h]
theorem below_allocB {B : Nat} {w v : World} (h : Below B w v) (hB : B ≤ w.heap.size) (o : Obj) : Below B w (v.alloc o) := h.alloc (Nat.le_trans hB h.size) o
theorem below_growB {B : Nat} {w v v' : World} {r : Option Nat} (h : Below B w v) (hg : v.grownBy v' r) (hB : B ≤ w.heap.size) (hr : ∀ q, r = some q → B ≤ q) : Below B w v' := h.grown hg (Nat.le_trans hB h.size) hr
theorem cells_grow {w w' : World} {g off : Nat} {r : Option Nat} {vs : List Value} (h : Cells w (some ⟨g, off, none⟩) vs) (hg : w.grownBy w' r) (hne : r ≠ some g) : Cells w' (some ⟨g, off, none⟩) vs := by
  rcases h with h | ⟨b, o, h, hc⟩
  · exact .inl h
  · refine .inr ⟨b, o, h, fun j u hu => ?_⟩
    injection h with h
    injection h with h1 h2 h3
    subst h1 h2
    exact hg.cell (hc j u hu) (fun e => hne e.symm)
theorem box_grow {w w' : World} {b : Nat} {r : Option Nat} {o : Obj} (h : w.heap[b]? = some o) (hg : w.grownBy w' r) (hne : ∀ k, r = some k → k ≠ b) : w'.heap[b]? = some o :=
  (hg.block b (Array.getElem?_eq_some_iff.1 h).1 (fun e => hne b e.symm rfl)).trans h
theorem ints_bel {w v : World} {ao : Option Addr} {xs : List Int} (h : Ints w ao xs) (hb : Below w.heap.size w v) : Ints v ao xs := h.below hb
end Go.Proofs.YtkmampichfbppaaDoor
