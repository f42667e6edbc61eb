/- Ports: what the laws of written registers need. -/
import Derived.Test.YtkmampichfbppaaDoorWrite2
import Derived.Test.YtkmampichfbppaaDoorWrite3
import Derived.Test.YtkmampichfbppaaDoorWriteDraw
import Derived.Test.YtkmampichfbppaaDoorDriver5
import Derived.Test.YtkmampichfbppaaDoorSaidB
namespace Go.Proofs.YtkmampichfbppaaDoor
open Go.RowKit

theorem write_at {P : Program} {fn : FuncId} {args : Array Value} {w : World} {R : PwR} {d : PortD} {ok : Bool} (hR : R = ⟨d, ok⟩) (H : Calls P fn args w (WriteP w R)) :
    Calls P fn args w fun e w' => ∃ A1 : PortA, e = .returned (.tuple #[.agg (portC d A1), .bool ok]) ∧ OwnG w' w.heap.size A1.ax A1.cx d.gs ∧ OwnI w' w.heap.size A1.ay A1.cy d.ys ∧ Below w.heap.size w w' := by subst hR; exact H
theorem write_cases (d : PortD) (reg v : Int) : writeR d reg v = ⟨zPort, false⟩ ∨ ∃ d2, writeR d reg v = ⟨d2, true⟩ ∧ portB d2 = true ∧ portB d = true ∧ wrote d reg v = some d2 := by
  cases h : portB d
  · exact .inl (writeR_inv h reg v)
  cases hw : wrote d reg v with
  | none => exact .inl (writeR_none hw)
  | some d2 =>
    cases h2 : portB d2
    · exact .inl (writeR_bad hw h2)
    · exact .inr ⟨d2, writeR_good h hw h2, h2, rfl, rfl⟩
theorem wrote_cases {d d2 : PortD} {reg v : Int} (h : wrote d reg v = some d2) : (reg = 0 ∧ sputB d.sr d.sh d.sl d.ys v = true ∧ d2 = { d with ys := d.ys ++ [v] }) ∨ (reg = 1 ∧ d2 = { d with en := v }) ∨ (reg = 3 ∧ d2 = { d with b := 5 + v % 4, p := fmtP v, s := 1 + v / 4 % 2 }) ∨ (reg = 4 ∧ d2 = { d with co := v }) := by
  unfold wrote at h
  split at h
  · rename_i h0
    split at h
    · rename_i hs; injection h with h; exact .inl ⟨h0, hs, h.symm⟩
    · cases h
  split at h
  · rename_i h1; injection h with h; exact .inr (.inl ⟨h1, h.symm⟩)
  split at h
  · rename_i h3
    split at h
    · injection h with h; exact .inr (.inr (.inl ⟨h3, h.symm⟩))
    · cases h
  split at h
  · rename_i h4; injection h with h; exact .inr (.inr (.inr ⟨h4, h.symm⟩))
  · cases h
theorem write_ro (d : PortD) (v : Int) : writeR d 2 v = ⟨zPort, false⟩ ∧ writeR d 5 v = ⟨zPort, false⟩ ∧ writeR d 6 v = ⟨zPort, false⟩ := by
  refine ⟨writeR_none ?_, writeR_none ?_, writeR_none ?_⟩ <;> simp [wrote]
end Go.Proofs.YtkmampichfbppaaDoor
