/- Ports: a register is written. -/
import Derived.Test.YtkmampichfbppaaDoorDriver3
import Derived.Test.YtkmampichfbppaaDoorFmtOf2
import Derived.Test.YtkmampichfbppaaDoorSend6
namespace Go.Proofs.YtkmampichfbppaaDoor
open Go.RowKit

structure PwR where
  d : PortD
  ok : Bool
/-- The port behind the write, if there is one. -/
def wrote (d : PortD) (reg v : Int) : Option PortD :=
  if reg = 0 then (if sputB d.sr d.sh d.sl d.ys v then some { d with ys := d.ys ++ [v] } else none)
  else if reg = 1 then some { d with en := v } else if reg = 3 then (if fmtOk v then some { d with b := 5 + v % 4, p := fmtP v, s := 1 + v / 4 % 2 } else none)
  else if reg = 4 then some { d with co := v } else none
def writeR (d : PortD) (reg v : Int) : PwR := if portB d then (match wrote d reg v with | some d2 => if portB d2 then ⟨d2, true⟩ else ⟨zPort, false⟩ | none => ⟨zPort, false⟩) else ⟨zPort, false⟩
theorem writeR_inv {d : PortD} (h : portB d = false) (reg v : Int) : writeR d reg v = ⟨zPort, false⟩ := by simp [writeR, h]
theorem writeR_none {d : PortD} {reg v : Int} (h : wrote d reg v = none) : writeR d reg v = ⟨zPort, false⟩ := by simp [writeR, h]
theorem writeR_bad {d d2 : PortD} {reg v : Int} (h : wrote d reg v = some d2) (h2 : portB d2 = false) : writeR d reg v = ⟨zPort, false⟩ := by simp [writeR, h, h2]
theorem writeR_good {d d2 : PortD} {reg v : Int} (h0 : portB d = true) (h : wrote d reg v = some d2) (h2 : portB d2 = true) : writeR d reg v = ⟨d2, true⟩ := by simp [writeR, h0, h, h2]
def WriteP (w : World) (R : PwR) (e : Ending) (w' : World) : Prop := ∃ A1 : PortA, e = .returned (.tuple #[.agg (portC R.d A1), .bool R.ok]) ∧ OwnG w' w.heap.size A1.ax A1.cx R.d.gs ∧ OwnI w' w.heap.size A1.ay A1.cy R.d.ys ∧ Below w.heap.size w w'
theorem sput_at {P : Program} {fn : FuncId} {args : Array Value} {w : World} {R : SpR} {r h l : Int} {b : List Int} {ok : Bool} (hR : R = ⟨r, b, h, l, ok⟩) (H : Calls P fn args w (SPutP w R)) :
    Calls P fn args w fun e w' => ∃ a1 c1, e = .returned (.tuple #[.agg #[.int .i64 r, .slice a1 b.length c1, .int .i64 h, .int .i64 l], .bool ok]) ∧ OwnI w' w.heap.size a1 c1 b ∧ Below w.heap.size w w' := by subst hR; exact H
theorem portB_len {d : PortD} (h : portB d = true) : d.gs.length ≤ 16 ∧ d.ys.length ≤ 16 := by
  simp only [portB, sendVB, Bool.and_eq_true] at h
  have h1 := recvB_facts h.2.2.2.1
  have h2 := fifoB_facts h.2.2.2.2.1
  omega
theorem zRowG (w : World) (B : Nat) : OwnG w B zPortA.ax zPortA.cx zPort.gs := World.ownsRow_nil _ _ _ _
theorem zRowI (w : World) (B : Nat) : OwnI w B zPortA.ay zPortA.cy zPort.ys := World.ownsRow_nil _ _ _ _
end Go.Proofs.YtkmampichfbppaaDoor
