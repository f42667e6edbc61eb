/- Drivers: rows behind a store below them. -/
import Derived.Test.YtkmampichfbppaaDrvLaw3
import Derived.Deep.Cut
import Derived.Test.YtkmampichfbppaaStore3
namespace Go.Proofs.Ytkmampichfbppaa
open Go.RowKit

theorem DrvO.low {w w' : World} {B r : Nat} {d : DrvD} {A : DrvA} (h : DrvO w B d A) (g : w.grownBy w' (some r)) (hr : r < B) : DrvO w' B d A :=
  ⟨own_low h.1 g hr, own_low h.2.1 g hr, own_low h.2.2.1 g hr, own_low h.2.2.2 g hr⟩
theorem DrvO.below {w w' : World} {B : Nat} {d : DrvD} {A : DrvA} (h : DrvO w B d A) (b : Below w.heap.size w w') : DrvO w' B d A :=
  ⟨own_below h.1 b, own_below h.2.1 b, own_below h.2.2.1 b, own_below h.2.2.2 b⟩
theorem wpAnyH_at {P : Program} {md : Region.Mode} {ops : Array Oper} {Q : Exit → Act → World → Prop} {S : World → Prop} {fuel : Nat} {listed : Array Bool} {a : Act} {w : World} (v : World) (e : v = w) (h : wpAnyH P md ops Q S fuel listed a v) : wpAnyH P md ops Q S fuel listed a w := e ▸ h
end Go.Proofs.Ytkmampichfbppaa
