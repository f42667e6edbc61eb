/- Queues: facts for the laws of filling. -/
import Derived.Test.YtfjdmdjoebjciaaFifoLaw
import Derived.Test.YtfjdmdjoebjciaaFifo6
import Derived.Deep.CutRange
namespace Go.Proofs.Ytfjdmdjoebjciaa
open Go.RowKit

theorem fill_law {r : Int} {xs ys : List Int} (h : fifoB r xs = true) (hb : bytesB ys = true) :
    fifoB r (xs ++ ys.take (fillN r xs)) = true ∧ (xs ++ ys.take (fillN r xs)).length = xs.length + min (fillN r xs) ys.length ∧ (ys.drop (fillN r xs)).length = ys.length - fillN r xs ∧
      (((xs ++ ys.take (fillN r xs)).length : Int) = r ∨ (ys.drop (fillN r xs)).length = 0) ∧ (xs ++ ys.take (fillN r xs)) ++ ys.drop (fillN r xs) = xs ++ ys := by
  have hf := fifoB_facts h
  have h1 : (xs ++ ys.take (fillN r xs)).length = xs.length + min (fillN r xs) ys.length := by rw [List.length_append, List.length_take]
  have h2 : (ys.drop (fillN r xs)).length = ys.length - fillN r xs := List.length_drop
  have hN : (fillN r xs : Int) = r - xs.length := by unfold fillN; omega
  refine ⟨?_, h1, h2, ?_, by rw [List.append_assoc, List.take_append_drop]⟩
  · simp only [fifoB, Bool.and_eq_true, decide_eq_true_eq]
    refine ⟨hf.1, by rw [h1]; omega, ?_⟩
    have h3 := hf.2.2
    simp only [bytesB, List.all_append, Bool.and_eq_true] at h3 hb ⊢
    refine ⟨h3, ?_⟩
    rw [List.all_eq_true] at hb ⊢
    exact fun x hx => hb x (List.mem_of_mem_take hx)
  · rw [h1, h2]; omega
theorem fill_step {r x : Int} {xs ys : List Int} {k : Nat} (h : fifoB r xs = true) (hb : bytesB ys = true) (hk : k < fillN r xs) (hx : ys[k]? = some x) : putB r (xs ++ ys.take k) x = true := by
  have hf := fifoB_facts h
  have hN : (fillN r xs : Int) = r - xs.length := by unfold fillN; omega
  have hl : (xs ++ ys.take k).length ≤ xs.length + k := by rw [List.length_append, List.length_take]; omega
  have hbx : byteB x = true := by
    unfold bytesB at hb
    rw [List.all_eq_true] at hb
    exact hb x (List.mem_of_getElem? hx)
  simp only [putB, hbx, Bool.and_eq_true, decide_eq_true_eq, true_and]
  refine ⟨?_, by omega⟩
  simp only [fifoB, Bool.and_eq_true, decide_eq_true_eq]
  refine ⟨hf.1, by omega, ?_⟩
  have h3 := hf.2.2
  simp only [bytesB, List.all_append, Bool.and_eq_true] at h3 hb ⊢
  refine ⟨h3, ?_⟩
  rw [List.all_eq_true] at hb ⊢
  exact fun y hy => hb y (List.mem_of_mem_take hy)
theorem take_min_self (ys : List Int) (n : Nat) : ys.take (min n ys.length) = ys.take n := by
  rcases Nat.le_total n ys.length with h | h
  · rw [Nat.min_eq_left h]
  · rw [Nat.min_eq_right h, List.take_length, List.take_of_length_le h]
end Go.Proofs.Ytfjdmdjoebjciaa
