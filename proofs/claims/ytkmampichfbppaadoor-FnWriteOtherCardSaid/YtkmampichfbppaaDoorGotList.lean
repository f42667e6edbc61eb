/- Bytes that came as a linked list: nodes, each behind the one before. Plain part. -/
import Derived.Test.YtkmampichfbppaaDoorGot
namespace Go.Proofs.YtkmampichfbppaaDoor
open Go.RowKit

/-- Nodes from p on up to q; their blocks rise from lo on and lie below hi. -/
def Seg (w : World) : Nat → Nat → Option Addr → List Gt → Option Addr → Prop
  | lo, hi, p, [], q => p = q ∧ lo ≤ hi
  | lo, hi, p, g :: gs, q => ∃ b r, p = some ⟨b, 0, none⟩ ∧ lo ≤ b ∧ w.heap[b]? = some (.cells #[.int .i64 g.b, .int .i64 g.c, .pointer r] 106 (0, 0)) ∧ Seg w (b + 1) hi r gs q
theorem Seg.le {w : World} {lo hi : Nat} {p q : Option Addr} {gs : List Gt} (h : Seg w lo hi p gs q) : lo ≤ hi := by
  induction gs generalizing lo p with
  | nil => exact h.2
  | cons g gs ih => obtain ⟨b, r, _, h1, _, h2⟩ := h; have := ih h2; omega
/-- The blocks from lo on and below hi are as they were. -/
theorem Seg.same {w w' : World} {lo hi : Nat} {p q : Option Addr} {gs : List Gt} (h : Seg w lo hi p gs q) (hs : ∀ b, lo ≤ b → b < hi → w'.heap[b]? = w.heap[b]?) : Seg w' lo hi p gs q := by
  induction gs generalizing lo p with
  | nil => exact h
  | cons g gs ih =>
    obtain ⟨b, r, h0, h1, h2, h3⟩ := h
    have hl := h3.le
    exact ⟨b, r, h0, h1, (hs b h1 (by omega)).trans h2, ih h3 (fun x hx hx2 => hs x (by omega) hx2)⟩
theorem Seg.below {w w' : World} {lo hi : Nat} {p q : Option Addr} {gs : List Gt} (h : Seg w lo hi p gs q) (hb : Below hi w w') : Seg w' lo hi p gs q := h.same fun b _ hx => hb.block b hx
/-- One more node at the end. -/
theorem Seg.snoc {w : World} {lo l : Nat} {p q : Option Addr} {gs : List Gt} {g : Gt} (h : Seg w lo l p gs (some ⟨l, 0, none⟩)) (hl : w.heap[l]? = some (.cells #[.int .i64 g.b, .int .i64 g.c, .pointer q] 106 (0, 0))) (hi : Nat) (hh : l < hi) : Seg w lo hi p (gs ++ [g]) q := by
  induction gs generalizing lo p with
  | nil =>
    obtain ⟨rfl, h1⟩ := h
    exact ⟨l, q, rfl, h1, hl, rfl, by omega⟩
  | cons x gs ih =>
    obtain ⟨b, r, h0, h1, h2, h3⟩ := h
    exact ⟨b, r, h0, h1, h2, ih h3⟩
/-- A list in block lb. -/
def GL (w : World) (lb : Nat) (gs : List Gt) : Prop :=
  (gs = [] ∧ w.heap[lb]? = some (.cells #[.pointer none, .pointer none, .int .i64 0] 103 (0, 0))) ∨
  ∃ gs' g l p, gs = gs' ++ [g] ∧ w.heap[lb]? = some (.cells #[.pointer p, .pointer (some ⟨l, 0, none⟩), .int .i64 (gs.length : Int)] 103 (0, 0)) ∧ Seg w (lb + 1) l p gs' (some ⟨l, 0, none⟩) ∧ lb < l ∧
    w.heap[l]? = some (.cells #[.int .i64 g.b, .int .i64 g.c, .pointer none] 106 (0, 0))
theorem GL.lt {w : World} {lb : Nat} {gs : List Gt} (h : GL w lb gs) : lb < w.heap.size := by
  rcases h with ⟨_, h⟩ | ⟨_, _, _, _, _, h, _⟩
  · exact box_lt h
  · exact box_lt h
theorem GL.below {w w' : World} {lb : Nat} {gs : List Gt} (h : GL w lb gs) (hb : Below w.heap.size w w') : GL w' lb gs := by
  rcases h with ⟨e, h⟩ | ⟨gs', g, l, p, e, h, hs, hl, hn⟩
  · exact .inl ⟨e, (hb.block _ (box_lt h)).trans h⟩
  · exact .inr ⟨gs', g, l, p, e, (hb.block _ (box_lt h)).trans h, hs.same (fun b _ hx => hb.block b (Nat.lt_trans hx (box_lt hn))), hl, (hb.block _ (box_lt hn)).trans hn⟩
/-- The whole chain, from the first node on. -/
theorem GL.chain {w : World} {lb : Nat} {gs : List Gt} (h : GL w lb gs) : ∃ p q n, w.heap[lb]? = some (.cells #[.pointer p, .pointer q, .int .i64 (n : Int)] 103 (0, 0)) ∧ n = gs.length ∧ Seg w (lb + 1) w.heap.size p gs none := by
  rcases h with ⟨rfl, h⟩ | ⟨gs', g, l, p, rfl, h, hs, hl, hn⟩
  · exact ⟨none, none, 0, h, rfl, rfl, box_lt h⟩
  · exact ⟨p, _, _, h, rfl, hs.snoc hn _ (box_lt hn)⟩
end Go.Proofs.YtkmampichfbppaaDoor
