/- Drivers: what the laws in parts need. -/
import Derived.Test.YtkmampichfbppaaDrvLaw
namespace Go.Proofs.Ytkmampichfbppaa
open Go.RowKit

theorem takeB_nat {d : DrvD} {M : Nat} (h : takeB d (M : Int) = true) : drvB d = true ∧ M ≤ 32 := by
  simp only [takeB, Bool.and_eq_true, inB, decide_eq_true_eq] at h
  exact ⟨h.1, by omega⟩
theorem take_ok {d d2 : DrvD} {L : List Int} {m : Int} (h : takeR d m = ⟨d2, L, true⟩) : takeB d m = true := by
  cases hb : takeB d m
  · rw [takeR_no hb] at h; cases h
  · rfl
theorem take_parts {d d2 : DrvD} {L1 : List Int} {M K : Nat} (hR : takeR d (M : Int) = ⟨d2, L1, true⟩) (hK : K ≤ M) (hl : DrvL d) :
    ∃ d3 X Y, takeR d (K : Int) = ⟨d3, X, true⟩ ∧ takeR d3 ((M : Int) - (K : Int)) = ⟨d2, Y, true⟩ ∧ X ++ Y = L1 ∧ DrvL d3 ∧ X.length ≤ 1048576 ∧ Y.length ≤ 1048576 := by
  have hB := take_ok hR
  obtain ⟨hv, hM⟩ := takeB_nat hB
  have hBK : takeB d (K : Int) = true := by simp only [takeB, inB, hv, Bool.true_and, decide_eq_true_eq]; omega
  rw [takeR_yes hB] at hR
  injection hR with h1 h2 _
  have hB3 : takeB { d with i := d.i.drop (takeN d K) } ((M : Int) - (K : Int)) = true := by
    simp only [takeB, inB, drvB_take (takeN d K) hv, Bool.true_and, decide_eq_true_eq]; omega
  have hKM : ((M : Int) - (K : Int)).toNat = M - K := by omega
  have hN : takeN d K + takeN { d with i := d.i.drop (takeN d K) } ((M : Int) - (K : Int)) = takeN d M := by
    simp only [takeN, hKM, List.length_drop, Int.toNat_natCast]; omega
  have hl2 := hl.2.2.1
  obtain ⟨Y, hY⟩ : ∃ Y, Y = (d.i.drop (takeN d K)).take (takeN { d with i := d.i.drop (takeN d K) } ((M : Int) - (K : Int))) := ⟨_, rfl⟩
  refine ⟨_, _, Y, takeR_yes hBK, (takeR_yes hB3).trans ?_, ?_, ⟨hl.1, hl.2.1, ?_, hl.2.2.2⟩, ?_, ?_⟩
  · congr 1
    · rw [← h1]
      simp only [List.drop_drop, hN]
    · exact hY.symm
  · rw [← h2, ← hN, List.take_add, hY]
  · simp only [List.length_drop]; omega
  · simp only [List.length_take]; omega
  · rw [hY]; simp only [List.length_take, List.length_drop]; omega
end Go.Proofs.Ytkmampichfbppaa
