/- How a slice of bytes, of records read. -/
import Derived.Test.YtkmampichfbppaaSaid
import Derived.Test.YtkmampichfbppaaDraw
import Derived.WideShapes
namespace Go.Proofs.Ytkmampichfbppaa
open Go.RowKit Go.Deep Go.ChangeShapes Go.WideShapes
section
variable {H : Type} {enc : TypeId × Value → H} {w : World} {base : Nat} {spare : Nat → Bool} {held : Bool}
set_option maxRecDepth 100000 in
theorem rd_bytes {fuel : Nat} {cs : List Value} {x : DataW H × List MemPlace} (h : DataW.trod enc Try.prog w base spare held fuel 59 cs = some x) :
    ∃ (ao : Option Addr) (cap : Nat) (bs : List Int), cs = [.slice ao bs.length cap] ∧ bs.length ≤ cap ∧ cap ≤ maxLen ∧ Bytes w ao bs := by
  obtain ⟨ao, cap, els, h1, h2, h3, h4⟩ := rd_slice (α := {n : Int // 0 ≤ n ∧ n < 256}) (f := fun n => [.int .u8 n.1]) (k := 1) (fun _ => rfl) (by decide) Try.underlying59 (by kernel_rfl : Try.prog.cellsOf 5 = 1) (fun n cs y hy => by
    obtain ⟨m, hm, hw⟩ := rd_int Try.underlying5 hy
    have := bounds_u8 hw
    exact ⟨⟨m, by omega⟩, hm⟩) h
  refine ⟨ao, cap, els.map (·.1), by rw [List.length_map]; exact h1, by rw [List.length_map]; exact h2, h3, ?_, ?_⟩
  · have : els.flatMap (fun n => [Value.int .u8 n.1]) = (els.map (·.1)).map (Value.int .u8) := by
      clear h1 h2 h4
      induction els with
      | nil => rfl
      | cons a l ih => rw [List.flatMap_cons, ih]; rfl
    rw [this] at h4
    exact h4
  · intro b hb
    obtain ⟨y, _, rfl⟩ := List.mem_map.1 hb
    exact y.2
set_option maxRecDepth 100000 in
theorem rd_sender {r : Reach} {b0 : Nat} {v : Value} {d : DataW H} {p : List MemPlace} (hv : Value.okWide Try.prog w r b0 29 v) (h : DataW.Trod enc Try.prog w base spare held 29 v d p) :
    ∃ (n0 n2 n3 : Int) (ao : Option Addr) (cap : Nat) (xs : List Int), v = .agg #[.int .i64 n0, .slice ao xs.length cap, .int .i64 n2, .int .i64 n3] ∧ xs.length ≤ cap ∧ cap ≤ maxLen ∧ Ints w ao xs := by
  obtain ⟨cs, rfl, hsz⟩ := okWide_struct Try.underlying29 hv
  obtain ⟨l⟩ := cs
  match l, hsz.trans (by kernel_rfl : Try.prog.cellsOf 29 = 4) with
  | [c0, c1, c2, c3], _ =>
    obtain ⟨fuel, hf⟩ := h
    obtain ⟨xs, m, _, _, _, hxl, hg⟩ := DataW.trod_struct Try.underlying29 hf
    obtain ⟨y0, g0⟩ := rd_fld hg hxl 0 _ rfl 0 1 3 rfl rfl (by kernel_rfl)
    obtain ⟨y1, g1⟩ := rd_fld hg hxl 1 _ rfl 1 1 27 rfl rfl (by kernel_rfl)
    obtain ⟨y2, g2⟩ := rd_fld hg hxl 2 _ rfl 2 1 3 rfl rfl (by kernel_rfl)
    obtain ⟨y3, g3⟩ := rd_fld hg hxl 3 _ rfl 3 1 3 rfl rfl (by kernel_rfl)
    obtain ⟨n0, e0, _⟩ := rd_int Try.underlying3 g0
    obtain ⟨ao, cap, zs, e1, h1, h2, h3⟩ := rd_ints Try.underlying27 Try.underlying3 (by kernel_rfl) g1
    obtain ⟨n2, e2, _⟩ := rd_int Try.underlying3 g2
    obtain ⟨n3, e3, _⟩ := rd_int Try.underlying3 g3
    simp [Value.cells] at e0 e1 e2 e3
    subst e0 e1 e2 e3
    exact ⟨n0, n2, n3, ao, cap, zs, rfl, h1, h2, h3⟩
end
end Go.Proofs.Ytkmampichfbppaa
