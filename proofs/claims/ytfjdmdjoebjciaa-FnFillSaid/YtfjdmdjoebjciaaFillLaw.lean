/- Queues: facts for the laws of filling. -/
import Derived.Test.YtfjdmdjoebjciaaFifoLaw
import Derived.Test.YtfjdmdjoebjciaaFifo6
namespace Go.Proofs.Ytfjdmdjoebjciaa
open Go.RowKit

theorem fill_law {r : Int} {xs ys : List Int} (h : fifoB r xs = true) (hb : bytesB ys = true) :
    fifoB r (xs ++ ys.take (fillN r xs)) = true ∧ (xs ++ ys.take (fillN r xs)).length = xs.length + min (fillN r xs) ys.length ∧ (ys.drop (fillN r xs)).length = ys.length - fillN r xs ∧
      (((xs ++ ys.take (fillN r xs)).length : Int) = r ∨ (ys.drop (fillN r xs)).length = 0) ∧ (xs ++ ys.take (fillN r xs)) ++ ys.drop (fillN r xs) = xs ++ ys := by
  have hf := fifoB_facts h
  have h1 : (xs ++ ys.take (fillN r xs)).length = xs.length + min (fillN r xs) ys.length := by rw [List.length_append, List.length_take]
  have h2 : (ys.drop (fillN r xs)).length = ys.length - fillN r xs := List.length_drop
  have hN : (fillN r xs : Int) = r - xs.length := by unfold fillN; omega
  refine ⟨?_, h1, h2, ?_, by rw [List.append_assoc, List.take_append_drop]⟩
  · simp only [fifoB, Bool.and_eq_true, decide_eq_true_eq]
    refine ⟨hf.1, by rw [h1]; omega, ?_⟩
    have h3 := hf.2.2
    simp only [bytesB, List.all_append, Bool.and_eq_true] at h3 hb ⊢
    refine ⟨h3, ?_⟩
    rw [List.all_eq_true] at hb ⊢
    exact fun x hx => hb x (List.mem_of_mem_take hx)
  · rw [h1, h2]; omega
end Go.Proofs.Ytfjdmdjoebjciaa
