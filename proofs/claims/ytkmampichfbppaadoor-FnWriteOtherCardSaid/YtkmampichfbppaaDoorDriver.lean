/- Drivers: who is valid. -/
import Derived.Test.YtkmampichfbppaaDoorPort
namespace Go.Proofs.YtkmampichfbppaaDoor
open Go.RowKit

def DrvL (d : DrvD) : Prop := d.p.gs.length ≤ 1048576 ∧ d.p.ys.length ≤ 1048576 ∧ d.i.length ≤ 1048576 ∧ d.o.length ≤ 1048576
end Go.Proofs.YtkmampichfbppaaDoor
