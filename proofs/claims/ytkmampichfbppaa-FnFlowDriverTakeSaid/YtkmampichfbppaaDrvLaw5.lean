/- Drivers: what the laws of flow need. -/
import Derived.Test.YtkmampichfbppaaDrvLaw2
import Derived.Test.YtkmampichfbppaaFlow2
namespace Go.Proofs.Ytkmampichfbppaa
open Go.RowKit

theorem drvB_co {d : DrvD} {c : Int} (h : drvB d = true) (hc : 0 ≤ c ∧ c ≤ 3) : drvB { d with p := { d.p with co := c } } = true := by
  simp only [drvB, portB, inB, Bool.and_eq_true, decide_eq_true_eq] at h ⊢
  exact ⟨⟨h.1.1, h.1.2.1, hc, h.1.2.2.2⟩, h.2⟩
theorem co_bits {co : Int} (h0 : 0 ≤ co) (h1 : co ≤ 3) : decide (co / 2 % 2 = 1) = decide (co / 2 = 1) := by
  have : co / 2 % 2 = co / 2 := by omega
  rw [this]
theorem take_whole {d : DrvD} (h : drvB d = true) (hl : DrvL d) : ∃ d3 L, takeR d 32 = ⟨d3, L, true⟩ ∧ d3.i.length = 0 ∧ drvB d3 = true ∧ DrvL d3 := by
  have hB : takeB d 32 = true := by simp only [takeB, h, Bool.true_and, inB]; decide
  have hlen := (drvB_len h).2.2.1
  refine ⟨_, _, takeR_yes hB, ?_, drvB_take _ h, hl.1, hl.2.1, ?_, hl.2.2.2⟩
  · simp only [List.length_drop, takeN]; omega
  · have := hl.2.2.1
    simp only [List.length_drop]; omega
theorem flow_empty {hi lo : Int} {d : DrvD} (hf : flowVB hi lo = true) (h : drvB d = true) (h0 : d.i.length = 0) : ∃ d4 : DrvD, flowR hi lo d = ⟨d4, true⟩ ∧ 2 ≤ d4.p.co ∧ d4.p.co ≤ 3 ∧ d4.p.gs.length = d.p.gs.length := by
  have hF := flowVB_facts hf
  have hen := drvB_en h
  have hw : ∀ b, flowW hi lo (d.i.length : Int) b = true := by
    intro b
    rw [h0]
    unfold flowW
    rw [if_neg (by simp; omega), if_pos (by simp; omega)]
  refine ⟨_, flowR_yes (co := d.p.co % 2 + 2) (by simp [hf, h]) (by simp [flowC, hw]), ?_, ?_, rfl⟩
  · dsimp only; omega
  · dsimp only; omega
theorem flow_at {P : Program} {fn : FuncId} {args : Array Value} {w : World} {R : SdR} {d : DrvD} {ok : Bool} (hR : R = ⟨d, ok⟩) (H : Calls P fn args w (SendP w R)) :
    Calls P fn args w fun e w' => ∃ (A1 : DrvA), e = .returned (.tuple #[.agg (drvC d A1), .bool ok]) ∧ DrvO w' w.heap.size d A1 ∧ DrvS A1 ∧ Below w.heap.size w w' := send_at hR H
end Go.Proofs.Ytkmampichfbppaa
