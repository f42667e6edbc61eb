/- Receivers: a byte is put: the program's function. -/
import Derived.Test.YtkmampichfbppaaDoorRecv4
namespace Go.Proofs.YtkmampichfbppaaDoor
open Go.RowKit

structure RvR where
  r : Int
  t : Int
  g : List Gt
  l : Bool
  a : Int
  ok : Bool
def rputB (r t : Int) (gs : List Gt) (a : Int) (g : Gt) : Bool := recvB r t gs a && gtB g
def rputR (r t : Int) (gs : List Gt) (l : Bool) (a : Int) (g : Gt) : RvR := if rputB r t gs a g then (if (gs.length : Int) < r then ⟨r, t, gs ++ [g], l, 0, true⟩ else ⟨r, t, gs, true, 0, true⟩) else ⟨0, 0, [], false, 0, false⟩
theorem rputR_no {r t a : Int} {gs : List Gt} {l : Bool} {g : Gt} (h : rputB r t gs a g = false) : rputR r t gs l a g = ⟨0, 0, [], false, 0, false⟩ := by simp [rputR, h]
theorem rputR_yes {r t a : Int} {gs : List Gt} {l : Bool} {g : Gt} (h : rputB r t gs a g = true) (hl : (gs.length : Int) < r) : rputR r t gs l a g = ⟨r, t, gs ++ [g], l, 0, true⟩ := by simp [rputR, h, hl]
theorem rputR_full {r t a : Int} {gs : List Gt} {l : Bool} {g : Gt} (h : rputB r t gs a g = true) (hl : ¬ (gs.length : Int) < r) : rputR r t gs l a g = ⟨r, t, gs, true, 0, true⟩ := by simp [rputR, h, hl]
def RPutP (w : World) (R : RvR) (e : Ending) (w' : World) : Prop := ∃ a1 c1, e = .returned (.tuple #[.agg #[.int .i64 R.r, .int .i64 R.t, .slice a1 R.g.length c1, .bool R.l, .int .i64 R.a], .bool R.ok]) ∧ OwnG w' w.heap.size a1 c1 R.g ∧ Below w.heap.size w w'
theorem ownG_nil (w : World) (B : Nat) : OwnG w B none 0 [] := World.ownsRow_nil _ _ _ _
theorem GL.setBelow {w : World} {lb : Nat} {gs : List Gt} (h : GL w lb gs) (x : Addr) (u : Value) (hx : x.block < lb) : GL (w.setCell x u) lb gs := by
  rcases h with ⟨e, h⟩ | ⟨gs', g, l, p, e, h, hs, hl, hn⟩
  · exact .inl ⟨e, (Below.heap_setCell w x u _ (by omega)).trans h⟩
  · exact .inr ⟨gs', g, l, p, e, (Below.heap_setCell w x u _ (by omega)).trans h, hs.same (fun b hb _ => Below.heap_setCell w x u b (by omega)), hl, (Below.heap_setCell w x u _ (by omega)).trans hn⟩
end Go.Proofs.YtkmampichfbppaaDoor
