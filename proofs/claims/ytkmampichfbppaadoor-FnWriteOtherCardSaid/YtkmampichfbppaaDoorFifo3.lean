/- Fifo: sizes, copies, comparison, marks. -/
import Derived.Test.YtkmampichfbppaaDoorSz
namespace Go.Proofs.YtkmampichfbppaaDoor
open Go.RowKit






end Go.Proofs.YtkmampichfbppaaDoor

