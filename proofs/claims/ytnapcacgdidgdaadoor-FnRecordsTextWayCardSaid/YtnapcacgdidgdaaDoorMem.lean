/- Words for memory that the walks of this seat share: a slice that reads as a list of cells, of ints. -/
import Derived.WalkKit
import Derived.WalkSpells
import Derived.WalkLawsBesides
import Derived.Deep.QuietTactic
import Derived.BigQuiet
import Derived.Lib.Hide
import Derived.BigGuardPart
import Derived.Laws.OwnMore
import Derived.Deep.AppendLies
import Derived.Deep.RegionLawGrows
namespace Go.Proofs.YtnapcacgdidgdaaDoor
open Go.RowKit

/-- The cells from a slice's address on, as far as the list goes. -/
def Cells (w : World) (ao : Option Addr) (vs : List Value) : Prop :=
  vs = [] ∨ ∃ b off, ao = some ⟨b, off, none⟩ ∧ ∀ j u, vs[j]? = some u → w.cell? ⟨b, off + j, none⟩ = some u

/-- Every cell that is there in w holds the same in w'. -/
def Keeps (w w' : World) : Prop := ∀ b o u, w.cell? ⟨b, o, none⟩ = some u → w'.cell? ⟨b, o, none⟩ = some u

theorem Keeps.of_below {w w' : World} (h : Below w.heap.size w w') : Keeps w w' := fun b o _ hc =>
  (h.cell (p := ⟨b, o, none⟩) (World.block_lt_of_cell? w _ hc)).trans hc
theorem Keeps.refl (w : World) : Keeps w w := fun _ _ _ h => h
theorem Keeps.trans {a b c : World} (h : Keeps a b) (k : Keeps b c) : Keeps a c := fun _ _ _ hc => k _ _ _ (h _ _ _ hc)
theorem Keeps.drewN (w : World) (n : Nat) : Keeps w (w.drewN n) := fun _ _ _ h => h
theorem Keeps.alloc (w : World) (o : Obj) : Keeps w (w.alloc o) := Keeps.of_below ((Below.refl _ w).alloc (Nat.le_refl _) o)

theorem Below.hot {n : Nat} {w w' : World} {a : Addr} (h : Below n w w') (ha : a.block < n) : w'.frozen? a = w.frozen? a := World.frozen?_of_block (h.block _ ha)
theorem Cells.nil (w : World) (ao : Option Addr) : Cells w ao [] := .inl rfl
theorem Cells.keep {w w' : World} {ao : Option Addr} {vs : List Value} (h : Cells w ao vs) (hk : Keeps w w') : Cells w' ao vs := by
  rcases h with h | ⟨b, off, h, hc⟩
  · exact .inl h
  · exact .inr ⟨b, off, h, fun j u hu => hk _ _ _ (hc j u hu)⟩
theorem Cells.below {w w' : World} {ao : Option Addr} {vs : List Value} (h : Cells w ao vs) (hb : Below w.heap.size w w') : Cells w' ao vs := h.keep (.of_below hb)
theorem Cells.drewN {w : World} {ao : Option Addr} {vs : List Value} (h : Cells w ao vs) (n : Nat) : Cells (w.drewN n) ao vs := h
theorem Cells.drew {w : World} {ao : Option Addr} {vs : List Value} (h : Cells w ao vs) : Cells w.drew ao vs := h
theorem Cells.at_ {w : World} {ao : Option Addr} {vs : List Value} (h : Cells w ao vs) {k : Nat} {u : Value} (hu : vs[k]? = some u) :
    ∃ b off, ao = some ⟨b, off, none⟩ ∧ w.cell? ⟨b, off + k, none⟩ = some u := by
  rcases h with h | ⟨b, off, h, hc⟩
  · subst h; simp at hu
  · exact ⟨b, off, h, hc k u hu⟩

def Ints (w : World) (ao : Option Addr) (xs : List Int) : Prop := Cells w ao (xs.map (Value.int .i64))
theorem Ints.below {w w' : World} {ao : Option Addr} {xs : List Int} (h : Ints w ao xs) (hb : Below w.heap.size w w') : Ints w' ao xs := Cells.below h hb
theorem Ints.keep {w w' : World} {ao : Option Addr} {xs : List Int} (h : Ints w ao xs) (hb : Keeps w w') : Ints w' ao xs := Cells.keep h hb
theorem Ints.at_ {w : World} {ao : Option Addr} {xs : List Int} (h : Ints w ao xs) {k : Nat} (hk : k < xs.length) :
    ∃ b off x, ao = some ⟨b, off, none⟩ ∧ xs[k]? = some x ∧ w.cell? ⟨b, off + k, none⟩ = some (.int .i64 x) := by
  have hx : xs[k]? = some xs[k] := List.getElem?_eq_getElem hk
  obtain ⟨b, off, ha, hc⟩ := Cells.at_ h (k := k) (u := .int .i64 xs[k]) (by simp [hx])
  exact ⟨b, off, xs[k], ha, hx, hc⟩

theorem ints_one (xs : List Int) : ∀ u ∈ xs.map (Value.int .i64), u.oneCell' = true := by
  intro u hu
  obtain ⟨x, _, rfl⟩ := List.mem_map.1 hu
  rfl

theorem take_succ_of {α : Type} {xs : List α} {k : Nat} {x : α} (h : xs[k]? = some x) : xs.take (k + 1) = xs.take k ++ [x] := by
  rw [List.take_add_one, h]; rfl


/-! ### The walk's world under a name -/
theorem name_wp {P : Program} {c : Code} {Q : Exit → Act → World → Prop} {a : Act} {w : World} (h : ∀ W, W = w → c.wp P Q a W) : c.wp P Q a w := h w rfl
theorem name_calls {P : Program} {f : FuncId} {args : Array Value} {Q : Ending → World → Prop} {w : World} (h : ∀ W, W = w → Calls P f args W Q) : Calls P f args w Q := h w rfl
theorem name_list {P : Program} {ops : Array Oper} {Q : Exit → Act → World → Prop} {l : List Oper} {a : Act} {w : World} (h : ∀ W, W = w → wpList P ops Q l a W) : wpList P ops Q l a w := h w rfl

/-! ### A region that draws its order: its operations read, its callees may make new blocks -/
/-- A world behind W: of what was there nothing has turned. -/
structure After (W : World) where
  w : World
  below : Below W.heap.size W w
instance (W : World) : Inhabited (After W) := ⟨⟨W, Below.refl _ _⟩⟩
theorem After.keep {W : World} (p : After W) : Keeps W p.w := .of_below p.below
theorem After.cell {W : World} (p : After W) {b o : Nat} {u : Value} (h : W.cell? ⟨b, o, none⟩ = some u) : p.w.cell? ⟨b, o, none⟩ = some u := p.keep _ _ _ h
theorem below_join {a b c : World} (h : Below a.heap.size a b) (k : Below b.heap.size b c) : Below a.heap.size a c := h.trans (k.mono h.size)
theorem wp_region_after {P : Program} {id : Nat} {Q : Exit → Act → World → Prop} {a : Act} {W : World} {l : List Oper} (hm : P.follows .mixedOrders = true) (hB : Region.lexB .any l.toArray = true)
    (h : wpQuiet P l.toArray (fun x => ∃ p : After W, x = p.w) (fun a' => ∀ p : After W, Q .normal a' p.w) l a) : (Code.region id l.toArray true).wp P Q a W := by
  refine wp_region_quiet (C := fun x => ∃ p : After W, x = p.w) hm hB ⟨⟨W.drew, (Below.refl _ _).drew⟩, rfl⟩ ?_
  have e : (fun a' => ∀ w', (∃ p : After W, w' = p.w) → Q .normal a' w') = (fun a' => ∀ p : After W, Q .normal a' p.w) := by
    funext a'; exact propext ⟨fun h p => h _ ⟨p, rfl⟩, fun h w' ⟨p, e⟩ => e ▸ h p⟩
  rw [e]; simpa using h
theorem After.call {P : Program} {f : FuncId} {args : Array Value} {W : World} {p : After W} {v : Value}
    (h : Calls P f args p.w fun e w' => e = .returned v ∧ Below p.w.heap.size p.w w') : Calls P f args p.w fun e w'' => e = .returned v ∧ ∃ q : After W, w'' = q.w :=
  h.mono fun _ w'' ⟨he, hb⟩ => ⟨he, ⟨w'', below_join p.below hb⟩, rfl⟩

theorem below_alloc2 {W w : World} (h : Below W.heap.size W w) (o : Obj) : Below W.heap.size W (w.alloc o) := h.alloc h.size o
/-- Behind an append onto nil: what was there is as it was. -/
theorem below_nil {W w w2 : World} (h : Below W.heap.size W w) (hg : w.grownBy w2 none) : Below W.heap.size W w2 :=
  h.grown hg h.size fun k hk => by cases hk
theorem keeps_nil {w w2 : World} (hg : w.grownBy w2 none) : Keeps w w2 := fun b o u hc =>
  (hg.cell_far ⟨b, o, none⟩ (World.block_lt_of_cell? w _ hc) (by simp)).trans hc
/-- Behind an append onto a row from base on. -/
theorem below_row {W w w2 : World} {e size n c : Nat} {ao : Option Addr} {vs : List Value} (h : Below W.heap.size W w) (ho : w.ownsRow W.heap.size e size (.slice ao n c) n vs) (hg : w.grownBy w2 (Value.slice ao n c).ownBlock) : Below W.heap.size W w2 :=
  h.grown hg h.size fun k hk => (ho.lt k hk).1

/-! ### Contracts' ends -/
theorem ret_bool {a b : Bool} (h : a = b) : Ending.returned (.bool a) = .returned (.bool b) := by rw [h]
theorem ret_int {k : IntKind} {a b : Int} (h : a = b) : Ending.returned (.int k a) = .returned (.int k b) := by rw [h]
theorem below_drewN {B : Nat} {a w : World} (h : Below B a w) (n : Nat) : Below B a (w.drewN n) := ⟨h.os, h.tape, h.output, h.size, h.block⟩

/-! ### Lists of cells of fixed size -/
theorem flatN {α : Type} (f : α → List Value) (n : Nat) (hf : ∀ a, (f a).length = n) (l : List α) : ∀ k a j, l[k]? = some a → j < n → (l.flatMap f)[k * n + j]? = (f a)[j]? := by
  induction l with
  | nil => intro k a j h; simp at h
  | cons x l ih =>
    intro k a j h hj
    rw [List.flatMap_cons]
    cases k with
    | zero =>
      simp at h; subst h
      rw [List.getElem?_append_left (by rw [hf]; omega)]; simp
    | succ k =>
      have e : (k + 1) * n = k * n + n := Nat.succ_mul k n
      rw [List.getElem?_append_right (by rw [hf]; omega), hf, show (k + 1) * n + j - n = k * n + j by omega]
      exact ih k a j (by simpa using h) hj
theorem flatN_length {α : Type} (f : α → List Value) (n : Nat) (hf : ∀ a, (f a).length = n) (l : List α) : (l.flatMap f).length = l.length * n := by
  induction l with
  | nil => simp
  | cons x l ih => rw [List.flatMap_cons, List.length_append, ih, hf, List.length_cons, Nat.succ_mul]; omega
theorem all_succ {p : Nat → Prop} {k : Nat} (h : ∀ j, j < k → p j) (hk : p k) : ∀ j, j < k + 1 → p j := fun j hj => by
  rcases Nat.lt_or_eq_of_le (Nat.le_of_lt_succ hj) with h' | h'
  · exact h j h'
  · exact h' ▸ hk

/-! ### Rows that the call owns -/
section
variable {w w' : World} {base e size n c : Nat} {ao : Option Addr} {vs : List Value}
theorem own_cells (h : w.ownsRow base e size (.slice ao n c) n vs) : Cells w ao vs := by
  rcases h.2 with ⟨hv, h0⟩ | ⟨g, cap, cur, hv, _⟩
  · exact .inl (List.eq_nil_of_length_eq_zero (by rw [h.1, h0, Nat.zero_mul]))
  · have hg : ao = some ⟨g, 0, none⟩ := by injection hv
    subst hg
    refine .inr ⟨g, 0, rfl, fun j u hu => ?_⟩
    have := h.cells (g := g) rfl j u hu
    rwa [Addr.add_lit] at this
theorem own_below (h : w.ownsRow base e size (.slice ao n c) n vs) (hb : Below w.heap.size w w') : w'.ownsRow base e size (.slice ao n c) n vs := by
  refine ⟨h.1, ?_⟩
  rcases h.2 with hn | ⟨g, cap, cur, hv, hg, hh, rest⟩
  · exact .inl hn
  · exact .inr ⟨g, cap, cur, hv, hg, (hb.block g (Array.getElem?_eq_some_iff.1 hh).1).trans hh, rest⟩
theorem own_base (h : w.ownsRow base e size (.slice ao n c) n vs) {base' : Nat} (hb : base' ≤ base) : w.ownsRow base' e size (.slice ao n c) n vs := by
  refine ⟨h.1, ?_⟩
  rcases h.2 with hn | ⟨g, cap, cur, hv, hg, rest⟩
  · exact .inl hn
  · exact .inr ⟨g, cap, cur, hv, Nat.le_trans hb hg, rest⟩
theorem own_cap (h : w.ownsRow base e size (.slice ao n c) n vs) : n ≤ c := by
  rcases h.2 with ⟨hv, h0⟩ | ⟨g, cap, cur, hv, _, _, hc, _⟩
  · omega
  · have : c = cap := by injection hv
    omega
/-- Only block r (and what is new) has turned. -/
theorem only_trans {a b c : World} {r : Nat} (h : a.grownBy b (some r)) (k : b.grownBy c (some r)) : a.grownBy c (some r) :=
  ⟨k.os.trans h.os, k.tape.trans h.tape, k.output.trans h.output, Nat.le_trans h.size k.size, fun i hi hne => (k.block i (Nat.lt_of_lt_of_le hi h.size) hne).trans (h.block i hi hne)⟩
theorem only_below {a b : World} (h : Below a.heap.size a b) (r : Option Nat) : a.grownBy b r := ⟨h.os, h.tape, h.output, h.size, fun i hi _ => h.block i hi⟩
theorem only_grown {a b c : World} {r : Nat} {row : Option Nat} (h : a.grownBy b (some r)) (k : b.grownBy c row) (hr : ∀ g, row = some g → a.heap.size ≤ g) : a.grownBy c (some r) :=
  ⟨k.os.trans h.os, k.tape.trans h.tape, k.output.trans h.output, Nat.le_trans h.size k.size, fun i hi hne => (k.block i (Nat.lt_of_lt_of_le hi h.size) (fun e => by have := hr i e.symm; omega)).trans (h.block i hi hne)⟩
theorem below_only {a b c : World} {r : Nat} (h : Below a.heap.size a b) (k : b.grownBy c (some r)) (hr : a.heap.size ≤ r) : Below a.heap.size a c :=
  ⟨k.os.trans h.os, k.tape.trans h.tape, k.output.trans h.output, Nat.le_trans h.size k.size, fun i hi => (k.block i (Nat.lt_of_lt_of_le hi h.size) (fun e => by injection e; omega)).trans (h.block i hi)⟩
theorem own_only {r : Nat} (h : w.ownsRow base e size (.slice ao n c) n vs) (hg : w.grownBy w' (some r)) (hne : ∀ g, ao = some ⟨g, 0, none⟩ → g ≠ r) : w'.ownsRow base e size (.slice ao n c) n vs := by
  refine ⟨h.1, ?_⟩
  rcases h.2 with hn | ⟨g, cap, cur, hv, hb, hh, rest⟩
  · exact .inl hn
  · have hao : ao = some ⟨g, 0, none⟩ := by injection hv
    exact .inr ⟨g, cap, cur, hv, hb, (hg.block g (Array.getElem?_eq_some_iff.1 hh).1 (fun e => hne g hao (by injection e))).trans hh, rest⟩
theorem own_lt (h : w.ownsRow base e size (.slice ao n c) n vs) {g : Nat} (hg : ao = some ⟨g, 0, none⟩) : base ≤ g ∧ g < w.heap.size := by
  subst hg; exact h.lt g rfl
theorem grown_set (w : World) (a : Addr) (u : Value) : w.grownBy (w.setCell a u) (some a.block) :=
  ⟨rfl, rfl, rfl, by simp, fun k _ hk => Below.heap_setCell _ _ _ k (fun e => hk (by rw [e]))⟩
/-- A row stays as it is where a block below it is written. -/
theorem own_set (h : w.ownsRow base e size (.slice ao n c) n vs) (a : Addr) (u : Value) (ha : a.block < base) : (w.setCell a u).ownsRow base e size (.slice ao n c) n vs :=
  own_only h (grown_set w a u) fun g hg => by have := own_lt h hg; omega
/-- A row stays as it is where another block is written. -/
theorem own_set_far (h : w.ownsRow base e size (.slice ao n c) n vs) (a : Addr) (u : Value) (ha : w.heap.size ≤ a.block) : (w.setCell a u).ownsRow base e size (.slice ao n c) n vs :=
  own_only h (grown_set w a u) fun g hg => by have := own_lt h hg; omega
theorem own_head (h : w.ownsRow base e size (.slice ao n c) n vs) : (ao = none ∧ n = 0 ∧ vs = []) ∨ ∃ g, ao = some ⟨g, 0, none⟩ ∧ base ≤ g ∧ g < w.heap.size := by
  rcases h.2 with ⟨hv, h0⟩ | ⟨g, cap, cur, hv, hb, hh, rest⟩
  · refine .inl ⟨by injection hv, h0, List.eq_nil_of_length_eq_zero (by rw [h.1, h0, Nat.zero_mul])⟩
  · exact .inr ⟨g, by injection hv, hb, (Array.getElem?_eq_some_iff.1 hh).1⟩
end

/-- append of m elements, whose cells lie at an address, onto a row that the call owns: the walk goes on with a slice, written out. -/
theorem wpList_append_row {P : Program} (w : World) {ops : Array Oper} {rest : List Oper} {o : Oper} {a : Act} {Q : Exit → Act → World → Prop}
    (hgd : o.guard = none) (s x : Operand) (t : TypeId) (ho : o.op = .call { callee := .builtin .append, args := #[s, x], argTypes := #[t, t] })
    (base : Nat) (e : TypeId) (z : Value) (size bytes : Nat) (ht : P.underlying t = some (.slice e)) (hi : (P.info? e).map (fun i => (i.zero, i.size, i.bytes)) = some (some z, size, bytes))
    (hzs : z.cells.size = size) (hsz : 0 < size)
    (ao : Option Addr) (n c : Nat) (xs : List Value) (hs : a.eval s = .slice ao n c) (hown : w.ownsRow base e size (.slice ao n c) n xs)
    (A : Option Addr) (m d : Nat) (news : List Value) (hx : a.eval x = .slice A m d) (hnews : Cells w A news) (hlen : news.length = m * size) (h1 : ∀ u ∈ news, u.oneCell' = true)
    (hA : A = none → m = 0 ∧ d = 0)
    (h63 : n + m ≤ maxLen) (hbytes : (n + m) * bytes ≤ 140737488355328) (hbase : base ≤ w.heap.size)
    (h : ∀ ao' c' w', w'.ownsRow base e size (.slice ao' (n + m) c') (n + m) (xs ++ news) → w.grownBy w' (Value.slice ao n c).ownBlock → wpList P ops Q rest (a.put o.dst (.slice ao' (n + m) c')) w') : wpList P ops Q (o :: rest) a w := by
  obtain ⟨i, hi0, hz0, hz1, hz2⟩ := info_parts hi
  have go : ∀ v' w', w'.ownsRow base e size v' (n + m) (xs ++ news) → w.grownBy w' (Value.slice ao n c).ownBlock → wpList P ops Q rest (a.put o.dst v') w' := by
    intro v' w' h2 h3
    have : ∃ ao' c', v' = .slice ao' (n + m) c' := by
      rcases h2.2 with ⟨hv, h0⟩ | ⟨g, cap, cur, hv, _⟩
      · exact ⟨none, 0, by rw [hv, h0]⟩
      · exact ⟨_, _, hv⟩
    obtain ⟨ao', c', rfl⟩ := this
    exact h ao' c' w' h2 h3
  cases A with
  | none =>
    obtain ⟨rfl, rfl⟩ := hA rfl
    have hn : news = [] := List.eq_nil_of_length_eq_zero (by rw [hlen, Nat.zero_mul])
    subst hn
    refine wpList_plain hgd fun K hK => ?_
    have hrun := run_append_owned_none (P := P) w base t o.type e i size ht hi0 _ n xs hown
    unfold Oper.wp execOp
    simp only [ho, resolve, invoke, builtin, Sem.run_bind, Sem.run_pure, Result.andThen_ok, List.map_toArray, List.map_cons, List.map_nil, hs, hx, hrun]
    exact hK _ _ (go _ _ (by simpa using hown) (World.grownBy.refl _ _))
  | some ad =>
    refine wpList_append_own w hgd s x t ho base e i z size bytes ht hi0 hz0 hz1 hz2 hzs hsz _ n xs hs hown ad m d news hx hlen ?_ h1 h63 hbytes hbase fun v' w' h2 h3 _ => go v' w' h2 h3
    intro j u hu
    rcases hnews with hn | ⟨b, off, hb, hc⟩
    · subst hn; simp at hu
    · injection hb with hb
      subst hb
      rw [Addr.add_lit]
      exact hc j u hu

/-- The same at an operation. -/
theorem wp_append_row {P : Program} (w : World) {o : Oper} {a : Act} {K : Act → World → Prop} {Q : Exit → Act → World → Prop}
    (s x : Operand) (t : TypeId) (ho : o.op = .call { callee := .builtin .append, args := #[s, x], argTypes := #[t, t] })
    (base : Nat) (e : TypeId) (z : Value) (size bytes : Nat) (ht : P.underlying t = some (.slice e)) (hi : (P.info? e).map (fun i => (i.zero, i.size, i.bytes)) = some (some z, size, bytes))
    (hzs : z.cells.size = size) (hsz : 0 < size)
    (ao : Option Addr) (n c : Nat) (xs : List Value) (hs : a.eval s = .slice ao n c) (hown : w.ownsRow base e size (.slice ao n c) n xs)
    (A : Option Addr) (m d : Nat) (news : List Value) (hx : a.eval x = .slice A m d) (hnews : Cells w A news) (hlen : news.length = m * size) (h1 : ∀ u ∈ news, u.oneCell' = true)
    (hA : A = none → m = 0 ∧ d = 0)
    (h63 : n + m ≤ maxLen) (hbytes : (n + m) * bytes ≤ 140737488355328) (hbase : base ≤ w.heap.size)
    (h : ∀ ao' c' w', w'.ownsRow base e size (.slice ao' (n + m) c') (n + m) (xs ++ news) → w.grownBy w' (Value.slice ao n c).ownBlock → K (a.put o.dst (.slice ao' (n + m) c')) w') : o.wp P a w K Q := by
  obtain ⟨i, hi0, hz0, hz1, hz2⟩ := info_parts hi
  have go : ∀ v' w', w'.ownsRow base e size v' (n + m) (xs ++ news) → w.grownBy w' (Value.slice ao n c).ownBlock → K (a.put o.dst v') w' := by
    intro v' w' h2 h3
    have : ∃ ao' c', v' = .slice ao' (n + m) c' := by
      rcases h2.2 with ⟨hv, h0⟩ | ⟨g, cap, cur, hv, _⟩
      · exact ⟨none, 0, by rw [hv, h0]⟩
      · exact ⟨_, _, hv⟩
    obtain ⟨ao', c', rfl⟩ := this
    exact h ao' c' w' h2 h3
  have fin : ∀ {v' : Value} {w' : World}, (Builtin.append_ #[t, t] o.type #[.slice ao n c, .slice A m d]).run P w = .ok v' w' → K (a.put o.dst v') w' → o.wp P a w K Q := by
    intro v' w' hr hk
    unfold Oper.wp execOp
    simp only [ho, resolve, invoke, builtin, Sem.run_bind, Sem.run_pure, Result.andThen_ok, List.map_toArray, List.map_cons, List.map_nil, hs, hx, hr]
    exact hk
  cases A with
  | none =>
    obtain ⟨rfl, rfl⟩ := hA rfl
    have hn : news = [] := List.eq_nil_of_length_eq_zero (by rw [hlen, Nat.zero_mul])
    subst hn
    exact fin (run_append_owned_none (P := P) w base t o.type e i size ht hi0 _ n xs hown) (go _ _ (by simpa using hown) (World.grownBy.refl _ _))
  | some ad =>
    obtain ⟨v', w', hr, h2, h3, _⟩ := run_append_own_at (P := P) w base t o.type e i z size bytes ht hi0 hz0 hz1 hz2 hzs hsz _ n xs hown ad m d news hlen (by
      intro j u hu
      rcases hnews with hn | ⟨b, off, hb, hc⟩
      · subst hn; simp at hu
      · injection hb with hb
        subst hb
        rw [Addr.add_lit]
        exact hc j u hu) h1 h63 hbytes hbase
    exact fin hr (go v' w' h2 h3)
/-- The same at a step of a region that draws its order. -/
theorem step_append_row {P : Program} {w : World} {ops : Array Oper} {o : Oper} {a : Act} {K : Act → World → Prop} {Q : Exit → Act → World → Prop} {E : Prop} (hgd : o.guard = none)
    (s x : Operand) (t : TypeId) (ho : o.op = .call { callee := .builtin .append, args := #[s, x], argTypes := #[t, t] })
    (base : Nat) (e : TypeId) (z : Value) (size bytes : Nat) (ht : P.underlying t = some (.slice e)) (hi : (P.info? e).map (fun i => (i.zero, i.size, i.bytes)) = some (some z, size, bytes))
    (hzs : z.cells.size = size) (hsz : 0 < size)
    (ao : Option Addr) (n c : Nat) (xs : List Value) (hs : a.eval s = .slice ao n c) (hown : w.ownsRow base e size (.slice ao n c) n xs)
    (A : Option Addr) (m d : Nat) (news : List Value) (hx : a.eval x = .slice A m d) (hnews : Cells w A news) (hlen : news.length = m * size) (h1 : ∀ u ∈ news, u.oneCell' = true)
    (hA : A = none → m = 0 ∧ d = 0)
    (h63 : n + m ≤ maxLen) (hbytes : (n + m) * bytes ≤ 140737488355328) (hbase : base ≤ w.heap.size)
    (h : ∀ ao' c' w', w'.ownsRow base e size (.slice ao' (n + m) c') (n + m) (xs ++ news) → w.grownBy w' (Value.slice ao n c).ownBlock → K (a.put o.dst (.slice ao' (n + m) c')) w') :
    if Region.wanted o (yielded ops a.tmps) = true then Oper.wp P o a w K Q else E := by
  have hw : Region.wanted o (yielded ops a.tmps) = true := by simp [Region.wanted, hgd]
  rw [if_pos hw]
  exact wp_append_row w s x t ho base e z size bytes ht hi hzs hsz ao n c xs hs hown A m d news hx hnews hlen h1 hA h63 hbytes hbase h

/-- append onto nil. -/
theorem step_append_nil {P : Program} {w : World} {ops : Array Oper} {o : Oper} {a : Act} {K : Act → World → Prop} {Q : Exit → Act → World → Prop} {E : Prop} (hgd : o.guard = none)
    (s x : Operand) (t : TypeId) (ho : o.op = .call { callee := .builtin .append, args := #[s, x], argTypes := #[t, t] })
    (base : Nat) (e : TypeId) (z : Value) (size bytes : Nat) (ht : P.underlying t = some (.slice e)) (hi : (P.info? e).map (fun i => (i.zero, i.size, i.bytes)) = some (some z, size, bytes))
    (hzs : z.cells.size = size) (hsz : 0 < size) (hs : a.eval s = .slice none 0 0)
    (A : Option Addr) (m d : Nat) (news : List Value) (hx : a.eval x = .slice A m d) (hnews : Cells w A news) (hlen : news.length = m * size) (h1 : ∀ u ∈ news, u.oneCell' = true)
    (hA : A = none → m = 0 ∧ d = 0) (h63 : m ≤ maxLen) (hbytes : m * bytes ≤ 140737488355328) (hbase : base ≤ w.heap.size)
    (h : ∀ ao' c' w', w'.ownsRow base e size (.slice ao' m c') m news → w.grownBy w' none → K (a.put o.dst (.slice ao' m c')) w') :
    if Region.wanted o (yielded ops a.tmps) = true then Oper.wp P o a w K Q else E :=
  step_append_row hgd s x t ho base e z size bytes ht hi hzs hsz none 0 0 [] hs (World.ownsRow_nil _ _ _ _) A m d news hx hnews hlen h1 hA (by simpa using h63) (by simpa using hbytes) hbase
    fun ao' c' w' h2 h3 => by have := h ao' c' w' (by simpa using h2) h3; simpa using this
theorem wpList_append_nil {P : Program} (w : World) {ops : Array Oper} {rest : List Oper} {o : Oper} {a : Act} {Q : Exit → Act → World → Prop}
    (hgd : o.guard = none) (s x : Operand) (t : TypeId) (ho : o.op = .call { callee := .builtin .append, args := #[s, x], argTypes := #[t, t] })
    (base : Nat) (e : TypeId) (z : Value) (size bytes : Nat) (ht : P.underlying t = some (.slice e)) (hi : (P.info? e).map (fun i => (i.zero, i.size, i.bytes)) = some (some z, size, bytes))
    (hzs : z.cells.size = size) (hsz : 0 < size) (hs : a.eval s = .slice none 0 0)
    (A : Option Addr) (m d : Nat) (news : List Value) (hx : a.eval x = .slice A m d) (hnews : Cells w A news) (hlen : news.length = m * size) (h1 : ∀ u ∈ news, u.oneCell' = true)
    (hA : A = none → m = 0 ∧ d = 0) (h63 : m ≤ maxLen) (hbytes : m * bytes ≤ 140737488355328) (hbase : base ≤ w.heap.size)
    (h : ∀ ao' c' w', w'.ownsRow base e size (.slice ao' m c') m news → w.grownBy w' none → wpList P ops Q rest (a.put o.dst (.slice ao' m c')) w') : wpList P ops Q (o :: rest) a w :=
  wpList_append_row w hgd s x t ho base e z size bytes ht hi hzs hsz none 0 0 [] hs (World.ownsRow_nil _ _ _ _) A m d news hx hnews hlen h1 hA (by simpa using h63) (by simpa using hbytes) hbase
    fun ao' c' w' h2 h3 => by have := h ao' c' w' (by simpa using h2) h3; simpa using this

/-- append of something onto an empty slice without room: a new block. -/
theorem step_append_fresh {P : Program} {w : World} {ops : Array Oper} {o : Oper} {a : Act} {K : Act → World → Prop} {Q : Exit → Act → World → Prop} {E : Prop} (hgd : o.guard = none)
    (s x : Operand) (t : TypeId) (ho : o.op = .call { callee := .builtin .append, args := #[s, x], argTypes := #[t, t] })
    (e : TypeId) (z : Value) (size bytes : Nat) (ht : P.underlying t = some (.slice e)) (hi : (P.info? e).map (fun i => (i.zero, i.size, i.bytes)) = some (some z, size, bytes))
    (hzs : z.cells.size = size) (hsz : 0 < size) (a0 : Option Addr) (hs : a.eval s = .slice a0 0 0)
    (A : Option Addr) (m d : Nat) (news : List Value) (hx : a.eval x = .slice A m d) (hnews : Cells w A news) (hlen : news.length = m * size) (h1 : ∀ u ∈ news, u.oneCell' = true)
    (hm : 0 < m) (h63 : m ≤ maxLen) (hbytes : m * bytes ≤ 140737488355328)
    (h : ∀ ao' c' w', w'.ownsRow w.heap.size e size (.slice ao' m c') m news → w.grownBy w' none → K (a.put o.dst (.slice ao' m c')) w') :
    if Region.wanted o (yielded ops a.tmps) = true then Oper.wp P o a w K Q else E := by
  obtain ⟨i, hi0, hz0, hz1, hz2⟩ := info_parts hi
  have hn0 : news ≠ [] := by
    intro h
    rw [h] at hlen
    have : 0 < m * size := Nat.mul_pos hm hsz
    simp at hlen
    omega
  obtain ⟨b, off, rfl, hc⟩ : ∃ b off, A = some ⟨b, off, none⟩ ∧ ∀ j u, news[j]? = some u → w.cell? ⟨b, off + j, none⟩ = some u := by
    rcases hnews with h | ⟨b, off, h, hc⟩
    · exact absurd h hn0
    · exact ⟨b, off, h, hc⟩
  refine step_append_grows hgd s x t ho e i z size bytes ht hi0 hz0 hz1 hz2 hzs hsz a0 0 0 [] hs (fun _ => ⟨rfl, rfl⟩) (by simp) (by simp) ⟨b, off, none⟩ m d news hx hlen (fun j u hu => by rw [Addr.add_lit]; exact hc j u hu) h1 (by omega) (by omega) (by simpa using hbytes) ?_
  intro v' w' h2 h3
  rw [Nat.zero_add, List.nil_append] at h2
  have : ∃ ao' c', v' = .slice ao' m c' := by
    rcases h2.2 with ⟨hv, h0⟩ | ⟨g, cap, cur, hv, _⟩
    · exact ⟨none, 0, by rw [hv, h0]⟩
    · exact ⟨_, _, hv⟩
  obtain ⟨ao', c', rfl⟩ := this
  exact h ao' c' w' h2 h3
theorem below_ext {w w' : World} (h : w.grownBy w' none) : Below w.heap.size w w' := (Below.refl _ _).grown h (Nat.le_refl _) (fun k hk => by cases hk)

/-! ### Marks: numbers from k on, one a cell -/
def marks (k : Int) (n : Nat) : List Value := (List.range n).map fun i : Nat => .int .i64 (k + (i : Int))
theorem marks_length (k : Int) (n : Nat) : (marks k n).length = n := by simp [marks]
theorem marks_get (k : Int) (n j : Nat) (h : j < n) : (marks k n)[j]? = some (.int .i64 (k + (j : Int))) := by simp [marks, h]
theorem marks_succ (k : Int) (n : Nat) : marks k (n + 1) = marks k n ++ [.int .i64 (k + (n : Int))] := by simp [marks, List.range_succ]
theorem marks_step (k : Int) (vs : List Value) (j : Nat) (h : j < vs.length) : (marks k j ++ vs.drop j).set j (.int .i64 (k + (j : Int))) = marks k (j + 1) ++ vs.drop (j + 1) := by
  rw [marks_succ, List.set_append_right _ _ (by rw [marks_length]; exact Nat.le_refl _), marks_length, Nat.sub_self, List.drop_eq_getElem_cons h, List.set_cons_zero, List.append_assoc, List.singleton_append]
theorem marks_at (k : Int) (vs : List Value) (j : Nat) (h : j < vs.length) : (marks k j ++ vs.drop j)[j]? = some vs[j] := by
  rw [List.getElem?_append_right (by rw [marks_length]; exact Nat.le_refl _), marks_length, Nat.sub_self, List.drop_eq_getElem_cons h]; rfl
/-- One more cell is marked. -/
theorem own_mark {w : World} {base e size n c g : Nat} {vs : List Value} {k : Int} {j : Nat} (h : w.ownsRow base e size (.slice (some ⟨g, 0, none⟩) n c) n (marks k j ++ vs.drop j)) (hj : j < vs.length) :
    (w.setCell ⟨g, j, none⟩ (.int .i64 (k + (j : Int)))).ownsRow base e size (.slice (some ⟨g, 0, none⟩) n c) n (marks k (j + 1) ++ vs.drop (j + 1)) ∧ w.grownBy (w.setCell ⟨g, j, none⟩ (.int .i64 (k + (j : Int)))) (some g) := by
  have := h.stored j (.int .i64 (k + (j : Int)))
  rwa [marks_step k vs j hj] at this
theorem own_cell_at {w : World} {base e size n c g : Nat} {vs : List Value} (h : w.ownsRow base e size (.slice (some ⟨g, 0, none⟩) n c) n vs) {j : Nat} {u : Value} (hu : vs[j]? = some u) : w.cell? ⟨g, j, none⟩ = some u := by
  have := h.cells (g := g) rfl j u hu
  rwa [Addr.add_lit, Nat.zero_add] at this
theorem grownBy_trans {a b c : World} {r : Option Nat} (h : a.grownBy b r) (k : b.grownBy c r) : a.grownBy c r :=
  ⟨k.os.trans h.os, k.tape.trans h.tape, k.output.trans h.output, Nat.le_trans h.size k.size, fun i hi hne => (k.block i (Nat.lt_of_lt_of_le hi h.size) hne).trans (h.block i hi hne)⟩

/-! ### A row that is filled from its head -/
section
variable {w w' : World} {base e size n c g : Nat}
theorem own_cell_ex {vs : List Value} (h : w.ownsRow base e size (.slice (some ⟨g, 0, none⟩) n c) n vs) {j : Nat} (hj : j < n * size) : ∃ u, w.cell? ⟨g, j, none⟩ = some u := by
  have hl : j < vs.length := by rw [h.1]; exact hj
  exact ⟨_, own_cell_at h (List.getElem?_eq_getElem hl)⟩
theorem put_step (pre zs : List Value) (p : Nat) (u : Value) (hp : pre.length = p) (h : p < zs.length) : (pre ++ zs.drop p).set p u = (pre ++ [u]) ++ zs.drop (p + 1) := by
  rw [List.set_append_right _ _ (by omega), hp, Nat.sub_self, List.drop_eq_getElem_cons h, List.set_cons_zero, List.append_assoc, List.singleton_append]
theorem own_put {pre zs : List Value} {p : Nat} (h : w.ownsRow base e size (.slice (some ⟨g, 0, none⟩) n c) n (pre ++ zs.drop p)) (hp : pre.length = p) (hlt : p < zs.length) (u : Value) :
    (w.setCell ⟨g, p, none⟩ u).ownsRow base e size (.slice (some ⟨g, 0, none⟩) n c) n ((pre ++ [u]) ++ zs.drop (p + 1)) ∧ w.grownBy (w.setCell ⟨g, p, none⟩ u) (some g) := by
  have := h.stored p u
  rwa [put_step pre zs p u hp hlt] at this
theorem own_put2 {pre zs : List Value} {p : Nat} (h : w.ownsRow base e size (.slice (some ⟨g, 0, none⟩) n c) n (pre ++ zs.drop p)) (hp : pre.length = p) (hlt : p + 1 < zs.length) (u v : Value) :
    ((w.setCell ⟨g, p, none⟩ u).setCell ⟨g, p + 1, none⟩ v).ownsRow base e size (.slice (some ⟨g, 0, none⟩) n c) n ((pre ++ [u, v]) ++ zs.drop (p + 2)) ∧ w.grownBy ((w.setCell ⟨g, p, none⟩ u).setCell ⟨g, p + 1, none⟩ v) (some g) := by
  obtain ⟨h1, g1⟩ := own_put h hp (by omega) u
  obtain ⟨h2, g2⟩ := own_put h1 (by simp [hp]) hlt v
  exact ⟨by simpa using h2, grownBy_trans g1 g2⟩
theorem own_put3 {pre zs : List Value} {p : Nat} (h : w.ownsRow base e size (.slice (some ⟨g, 0, none⟩) n c) n (pre ++ zs.drop p)) (hp : pre.length = p) (hlt : p + 2 < zs.length) (u v x : Value) :
    (((w.setCell ⟨g, p, none⟩ u).setCell ⟨g, p + 1, none⟩ v).setCell ⟨g, p + 2, none⟩ x).ownsRow base e size (.slice (some ⟨g, 0, none⟩) n c) n ((pre ++ [u, v, x]) ++ zs.drop (p + 3)) ∧
      w.grownBy (((w.setCell ⟨g, p, none⟩ u).setCell ⟨g, p + 1, none⟩ v).setCell ⟨g, p + 2, none⟩ x) (some g) := by
  obtain ⟨h1, g1⟩ := own_put2 h hp (by omega) u v
  obtain ⟨h2, g2⟩ := own_put h1 (by simp [hp]) (by omega) x
  exact ⟨by simpa using h2, grownBy_trans g1 g2⟩
theorem marks_two (k : Int) (p : Nat) : marks k (p + 2) = marks k p ++ [.int .i64 (k + (p : Int)), .int .i64 (k + (p : Int) + 1)] := by
  rw [marks_succ, marks_succ, List.append_assoc]; simp [Int.add_assoc]
theorem marks_three (k : Int) (p : Nat) : marks k (p + 3) = marks k p ++ [.int .i64 (k + (p : Int)), .int .i64 (k + (p : Int) + 1), .int .i64 (k + (p : Int) + 1 + 1)] := by
  rw [marks_succ, marks_two, List.append_assoc]; simp [Int.add_assoc]
end

/-- The cells of a block that has just been made. -/
theorem cells_new (w : World) (cs : Array Value) (t : TypeId) {g : Nat} (hg : g = w.heap.size) : Cells (w.alloc (.cells cs t)) (some ⟨g, 0, none⟩) cs.toList := by
  subst hg
  refine .inr ⟨_, 0, rfl, fun j u hu => ?_⟩
  rw [Nat.zero_add, World.cell?_alloc_new]
  simpa using hu
theorem below_append {B e size n c : Nat} {w0 W w2 : World} {ao : Option Addr} {vs : List Value} (hb : Below B w0 W) (ho : W.ownsRow B e size (.slice ao n c) n vs) (hg : W.grownBy w2 (Value.slice ao n c).ownBlock) (hB : B ≤ W.heap.size) : Below B w0 w2 :=
  hb.grown hg hB fun k hk => (ho.lt k hk).1

/-! ### make, as an equation that the walk takes -/
def newRow (z : Value) (k : Nat) : Array Value := madeCells z.cells k
theorem run_make_new {P : Program} (t e : TypeId) {z : Value} {size bytes : Nat} (ht : P.underlying t = some (.slice e)) (hi : (P.info? e).map (fun i => (i.zero, i.size, i.bytes)) = some (some z, size, bytes))
    (n : Nat) (hb : bytes * n ≤ 281474976710656) (h63 : n ≤ 9223372036854775807) (w : World) :
    (Instr.makeSlice t (.int .i64 (n : Int)) (.int .i64 (n : Int))).run P w = .ok (.slice (some ⟨w.heap.size, 0, none⟩) n n) (w.alloc (.cells (newRow z (n * size)) e)) := by
  obtain ⟨i, hi0, hz0, hz1, hz2⟩ := info_parts hi
  have hb' : (i.bytes : Int) * (n : Int) ≤ 281474976710656 := by
    rw [hz2]
    have h : ((bytes * n : Nat) : Int) ≤ 281474976710656 := by omega
    rwa [Int.natCast_mul] at h
  have hr := run_make (P := P) w t e i z ht hi0 hz0 .i64 .i64 n n (by omega) (Int.le_refl _) hb' (by omega)
  simp only [Int.toNat_natCast] at hr
  rw [hr, hz1]; rfl
theorem own_new (w : World) (e : TypeId) (z : Value) (n size base : Nat) (hb : base ≤ w.heap.size) (hm : n ≤ maxLen) :
    (w.alloc (.cells (newRow z (n * size)) e)).ownsRow base e size (.slice (some ⟨w.heap.size, 0, none⟩) n n) n (newRow z (n * size)).toList :=
  World.ownsRow_lit w _ n hb hm (size_madeCells _ _)

theorem own_lit_at (w : World) (cs : Array Value) (e size n base g : Nat) (hg : g = w.heap.size) (hb : base ≤ w.heap.size) (hm : n ≤ maxLen) (hs : cs.size = n * size) :
    (w.alloc (.cells cs e)).ownsRow base e size (.slice (some ⟨g, 0, none⟩) n n) n cs.toList := by
  subst hg; exact World.ownsRow_lit w cs n hb hm hs
theorem own_made_at (w : World) (cs : Array Value) (e size cap base g : Nat) (hg : g = w.heap.size) (hb : base ≤ w.heap.size) (hm : cap ≤ maxLen) (hs : cs.size = cap * size) :
    (w.alloc (.cells cs e)).ownsRow base e size (.slice (some ⟨g, 0, none⟩) 0 cap) 0 [] := by
  subst hg; exact World.ownsRow_made w cs cap hb hm hs

/-! ### Rows that lie apart -/
/-- A row's block lies from lo on and below hi. -/
def In (lo hi : Nat) (ao : Option Addr) : Prop := ∀ a, ao = some a → lo ≤ a.block ∧ a.block < hi
theorem own_in {w : World} {base e size n c : Nat} {ao : Option Addr} {vs : List Value} (h : w.ownsRow base e size (.slice ao n c) n vs) : In base w.heap.size ao := by
  rintro a rfl
  rcases own_head h with ⟨h0, _⟩ | ⟨g, hg, h1, h2⟩
  · cases h0
  · injection hg with hg; subst hg; exact ⟨h1, h2⟩
/-- A row is as it was where another one, which lies apart, was written. -/
theorem own_apart {w w' : World} {base e size n c n2 c2 lo hi lo2 hi2 : Nat} {ao ao2 : Option Addr} {vs : List Value} (h : w.ownsRow base e size (.slice ao n c) n vs) (hi1 : In lo hi ao) (hin2 : In lo2 hi2 ao2) (hd : hi ≤ lo2 ∨ hi2 ≤ lo) (hg : w.grownBy w' (Value.slice ao2 n2 c2).ownBlock) :
    w'.ownsRow base e size (.slice ao n c) n vs := by
  refine ⟨h.1, ?_⟩
  rcases h.2 with hn | ⟨g, cap, cur, hv, hb, hh, rest⟩
  · exact .inl hn
  · have hao : ao = some ⟨g, 0, none⟩ := by injection hv
    have h1 := hi1 _ hao
    refine .inr ⟨g, cap, cur, hv, hb, (hg.block g (Array.getElem?_eq_some_iff.1 hh).1 fun e => ?_).trans hh, rest⟩
    cases ao2 with
    | none => simp [Value.ownBlock] at e
    | some a2 =>
      simp only [Value.ownBlock, Option.some.injEq] at e
      have h2 := hin2 _ rfl
      dsimp only at h1
      omega
theorem below_mark {B lo hi n c : Nat} {w0 w w' : World} {ao : Option Addr} (hb : Below B w0 w) (hin : In lo hi ao) (hB : B ≤ lo) (hB2 : B ≤ w.heap.size) (hg : w.grownBy w' (Value.slice ao n c).ownBlock) : Below B w0 w' :=
  hb.grown hg hB2 fun k hk => by
    cases ao with
    | none => simp [Value.ownBlock] at hk
    | some a =>
      simp only [Value.ownBlock, Option.some.injEq] at hk
      have := hin a rfl
      omega
end Go.Proofs.YtnapcacgdidgdaaDoor
