/- How a slice of bytes, of records read. -/
import Derived.Test.YtkmampichfbppaaDoorSaid
import Derived.Test.YtkmampichfbppaaDoorDraw
import Derived.WideShapes
namespace Go.Proofs.YtkmampichfbppaaDoor
open Go.RowKit Go.Deep Go.ChangeShapes Go.WideShapes
section
variable {H : Type} {enc : TypeId × Value → H} {w : World} {base : Nat} {spare : Nat → Bool} {held : Bool}
set_option maxRecDepth 100000 in
theorem rd_bytes {fuel : Nat} {cs : List Value} {x : DataW H × List MemPlace} (h : DataW.trod enc Tryd.prog w base spare held fuel 22 cs = some x) :
    ∃ (ao : Option Addr) (cap : Nat) (bs : List Int), cs = [.slice ao bs.length cap] ∧ bs.length ≤ cap ∧ cap ≤ maxLen ∧ Bytes w ao bs := by
  obtain ⟨ao, cap, els, h1, h2, h3, h4⟩ := rd_slice (α := {n : Int // 0 ≤ n ∧ n < 256}) (f := fun n => [.int .u8 n.1]) (k := 1) (fun _ => rfl) (by decide) Tryd.underlying22 (by kernel_rfl : Tryd.prog.cellsOf 5 = 1) (fun n cs y hy => by
    obtain ⟨m, hm, hw⟩ := rd_int Tryd.underlying5 hy
    have := bounds_u8 hw
    exact ⟨⟨m, by omega⟩, hm⟩) h
  refine ⟨ao, cap, els.map (·.1), by rw [List.length_map]; exact h1, by rw [List.length_map]; exact h2, h3, ?_, ?_⟩
  · have : els.flatMap (fun n => [Value.int .u8 n.1]) = (els.map (·.1)).map (Value.int .u8) := by
      clear h1 h2 h4
      induction els with
      | nil => rfl
      | cons a l ih => rw [List.flatMap_cons, ih]; rfl
    rw [this] at h4
    exact h4
  · intro b hb
    obtain ⟨y, _, rfl⟩ := List.mem_map.1 hb
    exact y.2
end
end Go.Proofs.YtkmampichfbppaaDoor
