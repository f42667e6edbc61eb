/- More words for local structs and rows: a row lies in no block of another type; only one block has turned. -/
import Derived.Test.YtkmampichfbppaaDoorBox
namespace Go.Proofs.YtkmampichfbppaaDoor
open Go.RowKit

theorem own_box_ne {w : World} {base e size n c b : Nat} {ao : Option Addr} {vs : List Value} {cs : Array Value} {t : TypeId} (h : w.ownsRow base e size (.slice ao n c) n vs) (hb : w.heap[b]? = some (.cells cs t (0, 0))) (ht : e ≠ t) : ∀ q, ao = some q → q.block ≠ b := by
  rintro q rfl rfl
  rcases h.2 with ⟨hv, _⟩ | ⟨g, cap, cur, hv, _, hh, _⟩
  · cases hv
  · injection hv with hv
    injection hv with hv
    subst hv
    rw [hh] at hb
    injection hb with hb
    injection hb with _ h2 _
    exact ht h2
theorem own_block_of {ao : Option Addr} {n c b : Nat} (h : ∀ q, ao = some q → q.block ≠ b) : ∀ k, (Value.slice ao n c).ownBlock = some k → k ≠ b := by
  intro k hk
  cases ao with
  | none => simp [Value.ownBlock] at hk
  | some a =>
    simp only [Value.ownBlock, Option.some.injEq] at hk
    rw [← hk]
    exact h a rfl
theorem only_refl (w : World) (r : Option Nat) : w.grownBy w r := only_below (Below.refl _ _) r
theorem only_drew {w v : World} {r : Nat} (h : w.grownBy v (some r)) : w.grownBy v.drew (some r) := only_trans h (only_below (Below.refl _ _).drew _)
theorem only_setR {w v : World} {r : Nat} (h : w.grownBy v (some r)) (o : Nat) (u : Value) : w.grownBy (v.setCell ⟨r, o, none⟩ u) (some r) := only_trans h (grown_set v _ u)
theorem ints_far {w0 wc v : World} {r : Nat} {ao : Option Addr} {xs : List Int} (h0 : Ints w0 ao xs) (hb : Below w0.heap.size w0 wc) (g : wc.grownBy v (some r)) (hr : w0.heap.size ≤ r) : Ints v ao xs := by
  rcases h0 with h | ⟨b, off, h, hc⟩
  · exact .inl h
  · refine .inr ⟨b, off, h, fun j u hu => ?_⟩
    have h1 := hc j u hu
    have hlt := World.block_lt_of_cell? w0 _ h1
    exact g.cell ((hb.cell (p := ⟨b, off + j, none⟩) hlt).trans h1) (by simp only [ne_eq, Option.some.injEq]; simp at hlt; omega)
theorem Ints.take {w : World} {ao : Option Addr} {xs : List Int} (h : Ints w ao xs) (m : Nat) : Ints w ao (xs.take m) := by
  rcases h with h | ⟨b, off, h, hc⟩
  · left; simp at h; simp [h]
  · refine .inr ⟨b, off, h, fun j u hu => hc j u ?_⟩
    rw [List.map_take, List.getElem?_take] at hu
    split at hu
    · exact hu
    · cases hu
theorem Ints.drop {w : World} {b off : Nat} {xs : List Int} (h : Ints w (some ⟨b, off, none⟩) xs) (m : Nat) : Ints w (some ⟨b, off + m, none⟩) (xs.drop m) := by
  rcases h with h | ⟨b', off', h, hc⟩
  · left; simp at h; simp [h]
  · injection h with h
    injection h with h1 h2 _
    subst h1 h2
    refine .inr ⟨b, off + m, rfl, fun j u hu => ?_⟩
    rw [Nat.add_assoc]
    refine hc (m + j) u ?_
    rwa [List.map_drop, List.getElem?_drop] at hu
theorem ints_dropA {w : World} {ad : Addr} {xs : List Int} (h : Ints w (some ad) xs) (m : Nat) : Cells w (some (ad.add m)) ((xs.drop m).map (Value.int .i64)) := by
  have hh := h
  rcases hh with h0 | ⟨b, off, h1, _⟩
  · left; simp at h0; simp [h0]
  · injection h1 with h1
    subst h1
    rw [Addr.add_lit]
    exact Ints.drop h m
end Go.Proofs.YtkmampichfbppaaDoor
