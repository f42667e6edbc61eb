/- Fifo: sizes, copies, comparison, marks. -/
import Derived.Test.YtkmampichfbppaaSz
namespace Go.Proofs.Ytkmampichfbppaa
open Go.RowKit






end Go.Proofs.Ytkmampichfbppaa

