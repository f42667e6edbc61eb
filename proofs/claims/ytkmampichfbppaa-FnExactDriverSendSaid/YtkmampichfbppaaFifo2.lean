/- Queues: a byte is put. -/
import Derived.Test.YtkmampichfbppaaFifo
namespace Go.Proofs.Ytkmampichfbppaa
open Go.RowKit

def putB (room : Int) (xs : List Int) (b : Int) : Bool := fifoB room xs && (byteB b && decide ((xs.length : Int) < room))
/-- A queue, and whether it went. -/
structure FfR where
  r : Int
  b : List Int
  ok : Bool
def putR (room : Int) (xs : List Int) (b : Int) : FfR := if putB room xs b then ⟨room, xs ++ [b], true⟩ else ⟨0, [], false⟩
theorem putR_no {room : Int} {xs : List Int} {b : Int} (h : putB room xs b = false) : putR room xs b = ⟨0, [], false⟩ := by simp [putR, h]
theorem putR_yes {room : Int} {xs : List Int} {b : Int} (h : putB room xs b = true) : putR room xs b = ⟨room, xs ++ [b], true⟩ := by simp [putR, h]
def PutP (w : World) (R : FfR) (e : Ending) (w' : World) : Prop := ∃ a1 c1, e = .returned (.tuple #[.agg #[.int .i64 R.r, .slice a1 R.b.length c1], .bool R.ok]) ∧ OwnI w' w.heap.size a1 c1 R.b ∧ Below w.heap.size w w'


end Go.Proofs.Ytkmampichfbppaa
