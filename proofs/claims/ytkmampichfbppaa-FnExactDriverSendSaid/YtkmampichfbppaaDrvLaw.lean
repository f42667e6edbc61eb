/- Drivers: what the laws need. -/
import Derived.Test.YtkmampichfbppaaDriver4
import Derived.Test.YtkmampichfbppaaDriver5
import Derived.Test.YtkmampichfbppaaDriver6
import Derived.Test.YtkmampichfbppaaStore3
import Derived.Test.YtkmampichfbppaaSaidB
namespace Go.Proofs.Ytkmampichfbppaa
open Go.RowKit

theorem DrvO.n {w : World} {B : Nat} {d : DrvD} {A : DrvA} (h : DrvO w B d A) : DrvN d A := ⟨own_nilcap h.1, own_nilcap h.2.1, own_nilcap h.2.2.1, own_nilcap h.2.2.2⟩
theorem take_at {P : Program} {fn : FuncId} {args : Array Value} {w : World} {R : TkR} {d : DrvD} {l : List Int} {ok : Bool} (hR : R = ⟨d, l, ok⟩) (H : Calls P fn args w (TakeP w R)) :
    Calls P fn args w fun e w' => ∃ (A1 : DrvA) (a : Option Addr) (c : Nat), e = .returned (.tuple #[.agg (drvC d A1), .slice a l.length c, .bool ok]) ∧ DrvO w' w.heap.size d A1 ∧ OwnI w' w.heap.size a c l ∧ TakeS A1 a ∧ Below w.heap.size w w' := by subst hR; exact H
theorem send_at {P : Program} {fn : FuncId} {args : Array Value} {w : World} {R : SdR} {d : DrvD} {ok : Bool} (hR : R = ⟨d, ok⟩) (H : Calls P fn args w (SendP w R)) :
    Calls P fn args w fun e w' => ∃ (A1 : DrvA), e = .returned (.tuple #[.agg (drvC d A1), .bool ok]) ∧ DrvO w' w.heap.size d A1 ∧ DrvS A1 ∧ Below w.heap.size w w' := by subst hR; exact H
theorem zDrvL : DrvL zDrv := by unfold DrvL; decide
theorem drvB_take {d : DrvD} (k : Nat) (h : drvB d = true) : drvB { d with i := d.i.drop k } = true := by
  simp only [drvB, ringB, Bool.and_eq_true, decide_eq_true_eq, bytesB, List.all_eq_true] at h ⊢
  refine ⟨h.1, ⟨?_, ?_⟩, h.2.2⟩
  · have := h.2.1.1
    simp only [List.length_drop]; omega
  · intro x hx
    exact h.2.1.2 x (List.mem_of_mem_drop hx)
end Go.Proofs.Ytkmampichfbppaa
