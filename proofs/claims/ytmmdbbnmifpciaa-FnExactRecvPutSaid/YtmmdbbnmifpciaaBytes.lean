/- Lists of bytes: the tests on them. -/
import Derived.Test.YtmmdbbnmifpciaaLeaf
namespace Go.Proofs.Ytmmdbbnmifpciaa
open Go.RowKit

def bytesB (xs : List Int) : Bool := xs.all byteB
theorem inB_byte (x : Int) : inB x 0 255 = byteB x := rfl


end Go.Proofs.Ytmmdbbnmifpciaa
