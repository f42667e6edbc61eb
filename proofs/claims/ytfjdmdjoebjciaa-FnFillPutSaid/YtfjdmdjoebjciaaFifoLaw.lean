/- Queues: facts for the laws. -/
import Derived.Test.YtfjdmdjoebjciaaFifo4
import Derived.Test.YtfjdmdjoebjciaaFifoDraw
import Derived.Test.YtfjdmdjoebjciaaSaidB
namespace Go.Proofs.Ytfjdmdjoebjciaa
open Go.RowKit

theorem fifoB_snoc {r : Int} {xs : List Int} {x : Int} (h : fifoB r xs = true) (hb : byteB x = true) (hl : (xs.length : Int) < r) : fifoB r (xs ++ [x]) = true := by
  have hf := fifoB_facts h
  simp only [fifoB, Bool.and_eq_true, decide_eq_true_eq]
  refine ⟨hf.1, ?_, ?_⟩
  · rw [List.length_append]; simp; omega
  · have h2 := hf.2.2
    simp only [bytesB, List.all_append, Bool.and_eq_true] at h2 ⊢
    exact ⟨h2, by simp [hb]⟩
end Go.Proofs.Ytfjdmdjoebjciaa
