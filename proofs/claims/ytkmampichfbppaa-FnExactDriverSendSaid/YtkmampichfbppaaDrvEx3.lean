/- Drivers: what the exact statements need. -/
import Derived.Test.YtkmampichfbppaaDrvSaid
import Derived.Test.YtkmampichfbppaaDrvLaw3
namespace Go.Proofs.Ytkmampichfbppaa
open Go.RowKit

theorem drvN_le (d : DrvD) (h : DrvL d) : 1 ≤ drvN d 1 ∧ drvN d 1 ≤ 6000000 := by
  unfold DrvL at h
  unfold drvN
  omega
theorem MarkO.row {w w' : World} {B B2 n c : Nat} {d : DrvD} {A : DrvA} {k : Int} {a : Option Addr} {vs : List Value} (h : MarkO w B d A k) (oa : w.ownsRow B2 3 1 (.slice a n c) n vs) (S : TakeS A a) (g : w.grownBy w' (Value.slice a n c).ownBlock) : MarkO w' B d A k :=
  ⟨own_sep h.1 (own_ty_apart h.1 oa (by decide)) g, own_sep h.2.1 S.2.1 g, own_sep h.2.2.1 S.2.2.1 g, own_sep h.2.2.2 S.2.2.2 g⟩
theorem TakeS.row {w : World} {B B2 n c : Nat} {d : DrvD} {A : DrvA} {a : Option Addr} {vs : List Value} (S : TakeS A a) (h : DrvO w B d A) (oa : w.ownsRow B2 3 1 (.slice a n c) n vs) : ∀ b ∈ drvR A, Apart a b := by
  intro b hb
  simp only [drvR, List.mem_cons, List.mem_nil_iff, or_false] at hb
  rcases hb with rfl | rfl | rfl | rfl
  · exact (own_ty_apart h.1 oa (by decide)).symm
  · exact S.2.1.symm
  · exact S.2.2.1.symm
  · exact S.2.2.2.symm
theorem inL_one {lo hi : Nat} {a : Option Addr} (h : In lo hi a) : InL lo hi [a] := by
  intro b hb
  simp only [List.mem_cons, List.mem_nil_iff, or_false] at hb
  subst hb
  exact h
theorem row_ne {w : World} {base n c b : Nat} {ao : Option Addr} {vs : List Value} {cs : Array Value} {t : TypeId} (h : w.ownsRow base 3 1 (.slice ao n c) n vs) (hb : w.heap[b]? = some (.cells cs t (0, 0))) (ht : 3 ≠ t) : ∀ a ∈ [ao], ∀ q, a = some q → q.block ≠ b := by
  intro a ha
  simp only [List.mem_cons, List.mem_nil_iff, or_false] at ha
  subst ha
  exact own_box_ne h hb ht
theorem zDrvL' : DrvL zDrv := by unfold DrvL; decide
theorem takeR_len {d : DrvD} (m : Int) (h : DrvL d) : DrvL (takeR d m).d ∧ (takeR d m).l.length ≤ 1048576 := by
  cases hb : takeB d m
  · rw [takeR_no hb]; exact ⟨zDrvL', by decide⟩
  · rw [takeR_yes hb]
    have := h.2.2.1
    exact ⟨⟨h.1, h.2.1, by dsimp only; rw [List.length_drop]; omega, h.2.2.2⟩, by dsimp only; rw [List.length_take]; omega⟩
theorem sendR_len {d : DrvD} (ls : List Int) (h : DrvL d) : DrvL (sendR d ls).d := by
  cases hb : sendB d ls
  · rw [sendR_no hb]; exact zDrvL'
  · rw [sendR_yes hb rfl]
    have := (send_facts hb).2.1
    exact ⟨h.1, h.2.1, h.2.2.1, by dsimp only; rw [List.length_append]; omega⟩
end Go.Proofs.Ytkmampichfbppaa
