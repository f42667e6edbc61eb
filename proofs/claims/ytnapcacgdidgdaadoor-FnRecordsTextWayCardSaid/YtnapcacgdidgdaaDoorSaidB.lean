/- How a slice of bytes, of records read. -/
import Derived.Test.YtnapcacgdidgdaaDoorSaid
import Derived.Test.YtnapcacgdidgdaaDoorDraw
import Derived.WideShapes
import Derived.Test.YtnapcacgdidgdaaDoorRec
namespace Go.Proofs.YtnapcacgdidgdaaDoor
open Go.RowKit Go.Deep Go.ChangeShapes Go.WideShapes
section
variable {H : Type} {enc : TypeId × Value → H} {w : World} {base : Nat} {spare : Nat → Bool} {held : Bool}
set_option maxRecDepth 100000 in
theorem rd_bytes {fuel : Nat} {cs : List Value} {x : DataW H × List MemPlace} (h : DataW.trod enc Tryd.prog w base spare held fuel 22 cs = some x) :
    ∃ (ao : Option Addr) (cap : Nat) (bs : List Int), cs = [.slice ao bs.length cap] ∧ bs.length ≤ cap ∧ cap ≤ maxLen ∧ Bytes w ao bs := by
  obtain ⟨ao, cap, els, h1, h2, h3, h4⟩ := rd_slice (α := {n : Int // 0 ≤ n ∧ n < 256}) (f := fun n => [.int .u8 n.1]) (k := 1) (fun _ => rfl) (by decide) Tryd.underlying22 (by kernel_rfl : Tryd.prog.cellsOf 5 = 1) (fun n cs y hy => by
    obtain ⟨m, hm, hw⟩ := rd_int Tryd.underlying5 hy
    have := bounds_u8 hw
    exact ⟨⟨m, by omega⟩, hm⟩) h
  refine ⟨ao, cap, els.map (·.1), by rw [List.length_map]; exact h1, by rw [List.length_map]; exact h2, h3, ?_, ?_⟩
  · have : els.flatMap (fun n => [Value.int .u8 n.1]) = (els.map (·.1)).map (Value.int .u8) := by
      clear h1 h2 h4
      induction els with
      | nil => rfl
      | cons a l ih => rw [List.flatMap_cons, ih]; rfl
    rw [this] at h4
    exact h4
  · intro b hb
    obtain ⟨y, _, rfl⟩ := List.mem_map.1 hb
    exact y.2
set_option maxRecDepth 100000 in
theorem rd_recs {fuel : Nat} {cs : List Value} {x : DataW H × List MemPlace} (h : DataW.trod enc Tryd.prog w base spare held fuel 30 cs = some x) :
    ∃ (ao : Option Addr) (cap : Nat) (rs : List Rec), cs = [.slice ao rs.length cap] ∧ rs.length ≤ cap ∧ cap ≤ maxLen ∧ Recs w ao rs := by
  refine rd_slice (α := Rec) (f := recCells) (k := 3) recCells_length (by decide) Tryd.underlying30 (by kernel_rfl : Tryd.prog.cellsOf 51 = 3) (fun n cs y hy => ?_) h
  obtain ⟨xs, m, _, _, hl, hxl, hg⟩ := DataW.trod_struct Tryd.underlying51 hy
  have hl3 : cs.length = 3 := hl.trans (by kernel_rfl)
  match cs, hl3 with
  | [c0, c1, c2], _ =>
    obtain ⟨y0, g0⟩ := rd_fld hg hxl 0 _ rfl 0 1 3 rfl rfl (by kernel_rfl)
    obtain ⟨y1, g1⟩ := rd_fld hg hxl 1 _ rfl 1 1 3 rfl rfl (by kernel_rfl)
    obtain ⟨y2, g2⟩ := rd_fld hg hxl 2 _ rfl 2 1 3 rfl rfl (by kernel_rfl)
    obtain ⟨n0, e0, _⟩ := rd_int Tryd.underlying3 g0
    obtain ⟨n1, e1, _⟩ := rd_int Tryd.underlying3 g1
    obtain ⟨n2, e2, _⟩ := rd_int Tryd.underlying3 g2
    simp at e0 e1 e2
    subst e0 e1 e2
    exact ⟨⟨n0, n1, n2⟩, rfl⟩
end
end Go.Proofs.YtnapcacgdidgdaaDoor
