/- Receivers: why bytes should be taken: both functions. -/
import Derived.Test.YtkmampichfbppaaDoorRecv3
namespace Go.Proofs.YtkmampichfbppaaDoor
open Go.RowKit

def readyN (r t : Int) (gs : List Gt) (a : Int) : Int := if recvB r t gs a then (if t ≤ (gs.length : Int) then 1 else if 0 < gs.length ∧ 4 ≤ a then 2 else 0) else 0
end Go.Proofs.YtkmampichfbppaaDoor
