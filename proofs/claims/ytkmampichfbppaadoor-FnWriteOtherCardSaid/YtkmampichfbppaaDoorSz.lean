/- Sizes of lists. -/
import Derived.Test.YtkmampichfbppaaDoorBox
namespace Go.Proofs.YtkmampichfbppaaDoor
open Go.RowKit

end Go.Proofs.YtkmampichfbppaaDoor
