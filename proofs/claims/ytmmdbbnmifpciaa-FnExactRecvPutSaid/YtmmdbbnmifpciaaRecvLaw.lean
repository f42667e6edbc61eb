/- Receivers: what the laws need. -/
import Derived.Test.YtmmdbbnmifpciaaRecvU
import Derived.Test.YtmmdbbnmifpciaaRecv9
import Derived.Test.YtmmdbbnmifpciaaRecvDraw3
import Derived.Test.YtmmdbbnmifpciaaRecv8
import Derived.Test.YtmmdbbnmifpciaaSaidB
namespace Go.Proofs.Ytmmdbbnmifpciaa
open Go.RowKit

theorem own_nilcap {w : World} {base e size n c : Nat} {ao : Option Addr} {vs : List Value} (h : w.ownsRow base e size (.slice ao n c) n vs) : ao = none → n = 0 ∧ c = 0 := by
  rintro rfl
  rcases h.2 with ⟨hv, h0⟩ | ⟨g, cap, cur, hv, _⟩
  · injection hv with _ h1 h2
    exact ⟨h1, h2⟩
  · injection hv with h1
    cases h1
theorem recvB_of {r t a : Int} {gs : List Gt} (h : 1 ≤ r ∧ r ≤ 16 ∧ 1 ≤ t ∧ t ≤ r ∧ (gs.length : Int) ≤ r ∧ 0 ≤ a ∧ a ≤ 99) (hg : gtsB gs = true) : recvB r t gs a = true := by
  simp only [recvB, decide_eq_true h, hg, Bool.and_self]
theorem rputB_recv {r t a : Int} {gs : List Gt} {g : Gt} (h : rputB r t gs a g = true) : recvB r t gs a = true := by
  simp only [rputB, Bool.and_eq_true] at h
  exact h.1
theorem recvB_tick {r t a : Int} {gs : List Gt} (h : recvB r t gs a = true) : recvB r t gs (ageN gs a) = true := by
  obtain ⟨h1, h2, h3, h4, h5⟩ := recvB_facts h
  refine recvB_of ?_ h5
  unfold ageN
  split <;> (try split) <;> omega
theorem recvB_put {r t a : Int} {gs : List Gt} {g : Gt} (h : rputB r t gs a g = true) (hl : (gs.length : Int) < r) : recvB r t (gs ++ [g]) 0 = true := by
  obtain ⟨h1, h2, h3, h4, h5⟩ := recvB_facts (rputB_recv h)
  simp only [rputB, Bool.and_eq_true] at h
  refine recvB_of ?_ ?_
  · rw [List.length_append]; simp; omega
  · unfold gtsB at *
    rw [List.all_append, h5]; simp [h.2]
theorem recvB_full {r t a : Int} {gs : List Gt} {g : Gt} (h : rputB r t gs a g = true) : recvB r t gs 0 = true := by
  obtain ⟨h1, h2, h3, h4, h5⟩ := recvB_facts (rputB_recv h)
  exact recvB_of (by omega) h5
theorem age_up {r t g : Int} {gs : List Gt} {k : Nat} (h : recvB r t gs g = true) (h0 : ¬ gs.length = 0) (hk : (k : Int) ≤ g) (hlt : k < 4) : ((k + 1 : Nat) : Int) ≤ ageN gs g := by
  obtain ⟨h1, h2, h3, h4, h5⟩ := recvB_facts h
  unfold ageN
  rw [if_neg h0]
  split <;> omega
theorem ready_pos {r t a : Int} {gs : List Gt} (h : recvB r t gs a = true) (hx : 0 < gs.length) (ha : 4 ≤ a) : readyN r t gs a ≠ 0 := by
  simp only [readyN, h, if_true]
  split
  · decide
  · rw [if_pos ⟨hx, ha⟩]; decide
theorem Gts.take {w : World} {ao : Option Addr} {gs : List Gt} (h : Gts w ao gs) (k : Nat) : Gts w ao (gs.take k) := by
  have e : gs.flatMap gtCells = (gs.take k).flatMap gtCells ++ (gs.drop k).flatMap gtCells := by rw [← List.flatMap_append, List.take_append_drop]
  rcases h with h | ⟨b, off, h, hc⟩
  · left
    rw [e] at h
    exact (List.append_eq_nil_iff.1 h).1
  · refine .inr ⟨b, off, h, fun j v hj => hc j v ?_⟩
    rw [e, List.getElem?_append_left (List.getElem?_eq_some_iff.1 hj).1]
    exact hj
end Go.Proofs.Ytmmdbbnmifpciaa
