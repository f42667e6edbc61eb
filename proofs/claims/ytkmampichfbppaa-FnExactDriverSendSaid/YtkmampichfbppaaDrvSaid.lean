/- How a driver reads. -/
import Derived.Test.YtkmampichfbppaaDrvEx2
import Derived.Test.YtkmampichfbppaaSaidB
namespace Go.Proofs.Ytkmampichfbppaa
open Go.RowKit Go.Deep Go.ChangeShapes Go.WideShapes
/-- The rows of a driver that was handed in are of no impossible length. -/
def DrvX (d : DrvD) : Prop := d.p.gs.length ≤ 9223372036854775807 ∧ d.p.ys.length ≤ 9223372036854775807 ∧ d.i.length ≤ 9223372036854775807 ∧ d.o.length ≤ 9223372036854775807
theorem len_max {n c : Nat} (h1 : n ≤ c) (h2 : c ≤ maxLen) : n ≤ 9223372036854775807 := by unfold maxLen at h2; omega
section
variable {H : Type} {enc : TypeId × Value → H} {w : World} {base : Nat} {spare : Nat → Bool} {held : Bool}
set_option maxRecDepth 100000 in
theorem rd_gots {fuel : Nat} {cs : List Value} {x : DataW H × List MemPlace} (h : DataW.trod enc Try.prog w base spare held fuel 24 cs = some x) :
    ∃ (ao : Option Addr) (cap : Nat) (gs : List Gt), cs = [.slice ao gs.length cap] ∧ gs.length ≤ cap ∧ cap ≤ maxLen ∧ Gts w ao gs := by
  refine rd_slice (α := Gt) (f := gtCells) (k := 2) gtCells_length (by decide) Try.underlying24 (by kernel_rfl : Try.prog.cellsOf 128 = 2) (fun n cs y hy => ?_) h
  obtain ⟨xs, m, _, _, hl, hxl, hg⟩ := DataW.trod_struct Try.underlying128 hy
  have hl3 : cs.length = 2 := hl.trans (by kernel_rfl)
  match cs, hl3 with
  | [c0, c1], _ =>
    obtain ⟨y0, g0⟩ := rd_fld hg hxl 0 _ rfl 0 1 3 rfl rfl (by kernel_rfl)
    obtain ⟨y1, g1⟩ := rd_fld hg hxl 1 _ rfl 1 1 3 rfl rfl (by kernel_rfl)
    obtain ⟨n0, e0, _⟩ := rd_int Try.underlying3 g0
    obtain ⟨n1, e1, _⟩ := rd_int Try.underlying3 g1
    simp at e0 e1
    subst e0 e1
    exact ⟨⟨n0, n1⟩, rfl⟩

set_option maxRecDepth 100000 in
theorem rd_fmtC {fuel : Nat} {cs : List Value} {x : DataW H × List MemPlace} (h : DataW.trod enc Try.prog w base spare held fuel 23 cs = some x) :
    ∃ (b p s : Int), cs = [.int .i64 b, .int .i64 p, .int .i64 s] := by
  obtain ⟨xs, m, _, _, hl, hxl, hg⟩ := DataW.trod_struct Try.underlying23 h
  have hl3 : cs.length = 3 := hl.trans (by kernel_rfl)
  match cs, hl3 with
  | [c0, c1, c2], _ =>
    obtain ⟨y0, g0⟩ := rd_fld hg hxl 0 _ rfl 0 1 3 rfl rfl (by kernel_rfl)
    obtain ⟨y1, g1⟩ := rd_fld hg hxl 1 _ rfl 1 1 3 rfl rfl (by kernel_rfl)
    obtain ⟨y2, g2⟩ := rd_fld hg hxl 2 _ rfl 2 1 3 rfl rfl (by kernel_rfl)
    obtain ⟨n0, e0, _⟩ := rd_int Try.underlying3 g0
    obtain ⟨n1, e1, _⟩ := rd_int Try.underlying3 g1
    obtain ⟨n2, e2, _⟩ := rd_int Try.underlying3 g2
    simp at e0 e1 e2
    subst e0 e1 e2; exact ⟨n0, n1, n2, rfl⟩
set_option maxRecDepth 100000 in
theorem rd_modC {fuel : Nat} {cs : List Value} {x : DataW H × List MemPlace} (h : DataW.trod enc Try.prog w base spare held fuel 31 cs = some x) :
    ∃ (b p s t : Bool), cs = [.bool b, .bool p, .bool s, .bool t] := by
  obtain ⟨xs, m, _, _, hl, hxl, hg⟩ := DataW.trod_struct Try.underlying31 h
  have hl3 : cs.length = 4 := hl.trans (by kernel_rfl)
  match cs, hl3 with
  | [c0, c1, c2, c3], _ =>
    obtain ⟨y0, g0⟩ := rd_fld hg hxl 0 _ rfl 0 1 4 rfl rfl (by kernel_rfl)
    obtain ⟨y1, g1⟩ := rd_fld hg hxl 1 _ rfl 1 1 4 rfl rfl (by kernel_rfl)
    obtain ⟨y2, g2⟩ := rd_fld hg hxl 2 _ rfl 2 1 4 rfl rfl (by kernel_rfl)
    obtain ⟨y3, g3⟩ := rd_fld hg hxl 3 _ rfl 3 1 4 rfl rfl (by kernel_rfl)
    obtain ⟨n0, e0, _⟩ := DataW.trod_bool Try.underlying4 g0
    obtain ⟨n1, e1, _⟩ := DataW.trod_bool Try.underlying4 g1
    obtain ⟨n2, e2, _⟩ := DataW.trod_bool Try.underlying4 g2
    obtain ⟨n3, e3, _⟩ := DataW.trod_bool Try.underlying4 g3
    simp at e0 e1 e2 e3
    subst e0 e1 e2 e3; exact ⟨n0, n1, n2, n3, rfl⟩
set_option maxRecDepth 100000 in
theorem rd_recvC {fuel : Nat} {cs : List Value} {x : DataW H × List MemPlace} (h : DataW.trod enc Try.prog w base spare held fuel 26 cs = some x) :
    ∃ (r t : Int) (ao : Option Addr) (gs : List Gt) (c : Nat) (l : Bool) (a : Int), cs = [.int .i64 r, .int .i64 t, .slice ao gs.length c, .bool l, .int .i64 a] ∧ gs.length ≤ c ∧ c ≤ maxLen ∧ Gts w ao gs := by
  obtain ⟨xs, m, _, _, hl, hxl, hg⟩ := DataW.trod_struct Try.underlying26 h
  have hl3 : cs.length = 5 := hl.trans (by kernel_rfl)
  match cs, hl3 with
  | [c0, c1, c2, c3, c4], _ =>
    obtain ⟨y0, g0⟩ := rd_fld hg hxl 0 _ rfl 0 1 3 rfl rfl (by kernel_rfl)
    obtain ⟨y1, g1⟩ := rd_fld hg hxl 1 _ rfl 1 1 3 rfl rfl (by kernel_rfl)
    obtain ⟨y2, g2⟩ := rd_fld hg hxl 2 _ rfl 2 1 24 rfl rfl (by kernel_rfl)
    obtain ⟨y3, g3⟩ := rd_fld hg hxl 3 _ rfl 3 1 4 rfl rfl (by kernel_rfl)
    obtain ⟨y4, g4⟩ := rd_fld hg hxl 4 _ rfl 4 1 3 rfl rfl (by kernel_rfl)
    obtain ⟨n0, e0, _⟩ := rd_int Try.underlying3 g0
    obtain ⟨n1, e1, _⟩ := rd_int Try.underlying3 g1
    obtain ⟨ao, cap, zs, e2, h1, h2, h3⟩ := rd_gots g2
    obtain ⟨n3, e3, _⟩ := DataW.trod_bool Try.underlying4 g3
    obtain ⟨n4, e4, _⟩ := rd_int Try.underlying3 g4
    simp at e0 e1 e2 e3 e4
    subst e0 e1 e2 e3 e4; exact ⟨n0, n1, ao, zs, cap, n3, n4, rfl, h1, h2, h3⟩
set_option maxRecDepth 100000 in
theorem rd_sendC {fuel : Nat} {cs : List Value} {x : DataW H × List MemPlace} (h : DataW.trod enc Try.prog w base spare held fuel 29 cs = some x) :
    ∃ (r : Int) (ao : Option Addr) (xs : List Int) (c : Nat) (h l : Int), cs = [.int .i64 r, .slice ao xs.length c, .int .i64 h, .int .i64 l] ∧ xs.length ≤ c ∧ c ≤ maxLen ∧ Ints w ao xs := by
  obtain ⟨xs, m, _, _, hl, hxl, hg⟩ := DataW.trod_struct Try.underlying29 h
  have hl3 : cs.length = 4 := hl.trans (by kernel_rfl)
  match cs, hl3 with
  | [c0, c1, c2, c3], _ =>
    obtain ⟨y0, g0⟩ := rd_fld hg hxl 0 _ rfl 0 1 3 rfl rfl (by kernel_rfl)
    obtain ⟨y1, g1⟩ := rd_fld hg hxl 1 _ rfl 1 1 27 rfl rfl (by kernel_rfl)
    obtain ⟨y2, g2⟩ := rd_fld hg hxl 2 _ rfl 2 1 3 rfl rfl (by kernel_rfl)
    obtain ⟨y3, g3⟩ := rd_fld hg hxl 3 _ rfl 3 1 3 rfl rfl (by kernel_rfl)
    obtain ⟨n0, e0, _⟩ := rd_int Try.underlying3 g0
    obtain ⟨ao, cap, zs, e1, h1, h2, h3⟩ := rd_ints Try.underlying27 Try.underlying3 (by kernel_rfl) g1
    obtain ⟨n2, e2, _⟩ := rd_int Try.underlying3 g2
    obtain ⟨n3, e3, _⟩ := rd_int Try.underlying3 g3
    simp at e0 e1 e2 e3
    subst e0 e1 e2 e3; exact ⟨n0, ao, zs, cap, n2, n3, rfl, h1, h2, h3⟩
set_option maxRecDepth 100000 in
theorem rd_portC {fuel : Nat} {cs : List Value} {x : DataW H × List MemPlace} (h : DataW.trod enc Try.prog w base spare held fuel 33 cs = some x) :
    ∃ (d : PortD) (A : PortA), cs = (portC d A).toList ∧ PortM w d A ∧ d.gs.length ≤ 9223372036854775807 ∧ d.ys.length ≤ 9223372036854775807 := by
  obtain ⟨xs, m, _, _, hl, hxl, hg⟩ := DataW.trod_struct Try.underlying33 h
  have hl3 : cs.length = 18 := hl.trans (by kernel_rfl)
  match cs, hl3 with
  | [c0, c1, c2, c3, c4, c5, c6, c7, c8, c9, c10, c11, c12, c13, c14, c15, c16, c17], _ =>
    obtain ⟨y0, g0⟩ := rd_fld hg hxl 0 _ rfl 0 3 23 rfl rfl (by kernel_rfl)
    obtain ⟨y1, g1⟩ := rd_fld hg hxl 1 _ rfl 3 1 3 rfl rfl (by kernel_rfl)
    obtain ⟨y2, g2⟩ := rd_fld hg hxl 2 _ rfl 4 1 3 rfl rfl (by kernel_rfl)
    obtain ⟨y3, g3⟩ := rd_fld hg hxl 3 _ rfl 5 5 26 rfl rfl (by kernel_rfl)
    obtain ⟨y4, g4⟩ := rd_fld hg hxl 4 _ rfl 10 4 29 rfl rfl (by kernel_rfl)
    obtain ⟨y5, g5⟩ := rd_fld hg hxl 5 _ rfl 14 4 31 rfl rfl (by kernel_rfl)
    obtain ⟨b, p, s, e0⟩ := rd_fmtC g0
    obtain ⟨n1, e1, _⟩ := rd_int Try.underlying3 g1
    obtain ⟨n2, e2, _⟩ := rd_int Try.underlying3 g2
    obtain ⟨r, t, ax, gs, cx, l, a, e3, h1, h2, h3⟩ := rd_recvC g3
    obtain ⟨sr, ay, ys, cy, sh, sl, e4, k1, k2, k3⟩ := rd_sendC g4
    obtain ⟨m1, m2, m3, m4, e5⟩ := rd_modC g5
    simp at e0 e1 e2 e3 e4 e5
    obtain ⟨rfl, rfl, rfl⟩ := e0; subst e1 e2; obtain ⟨rfl, rfl, rfl, rfl, rfl⟩ := e3; obtain ⟨rfl, rfl, rfl, rfl⟩ := e4; obtain ⟨rfl, rfl, rfl, rfl⟩ := e5
    exact ⟨⟨b, p, s, n1, n2, r, t, gs, l, a, sr, ys, sh, sl, m1, m2, m3, m4⟩, ⟨ax, cx, ay, cy⟩, rfl, ⟨h3, k3⟩, len_max h1 h2, len_max k1 k2⟩
set_option maxRecDepth 100000 in
theorem rd_driver {r : Reach} {b0 : Nat} {v : Value} {x : DataW H} {p : List MemPlace} (hv : Value.okWide Try.prog w r b0 35 v) (h : DataW.Trod enc Try.prog w base spare held 35 v x p) :
    ∃ (d : DrvD) (A : DrvA), v = .agg (drvC d A) ∧ DrvM w d A ∧ DrvX d := by
  obtain ⟨cs, rfl, hsz⟩ := okWide_struct Try.underlying35 hv
  obtain ⟨l⟩ := cs
  match l, hsz.trans (by kernel_rfl : Try.prog.cellsOf 35 = 22) with
  | [c0, c1, c2, c3, c4, c5, c6, c7, c8, c9, c10, c11, c12, c13, c14, c15, c16, c17, c18, c19, c20, c21], _ =>
    obtain ⟨fuel, hf⟩ := h
    obtain ⟨xs, m, _, _, _, hxl, hg⟩ := DataW.trod_struct Try.underlying35 hf
    obtain ⟨y0, g0⟩ := rd_fld hg hxl 0 _ rfl 0 18 33 rfl rfl (by kernel_rfl)
    obtain ⟨y1, g1⟩ := rd_fld hg hxl 1 _ rfl 18 1 27 rfl rfl (by kernel_rfl)
    obtain ⟨y2, g2⟩ := rd_fld hg hxl 2 _ rfl 19 1 27 rfl rfl (by kernel_rfl)
    obtain ⟨y3, g3⟩ := rd_fld hg hxl 3 _ rfl 20 1 3 rfl rfl (by kernel_rfl)
    obtain ⟨y4, g4⟩ := rd_fld hg hxl 4 _ rfl 21 1 3 rfl rfl (by kernel_rfl)
    obtain ⟨dp, Ap, e0, hm, lg, ly⟩ := rd_portC g0
    obtain ⟨ai, ci, zi, e1, h1i, h2i, h3i⟩ := rd_ints Try.underlying27 Try.underlying3 (by kernel_rfl) g1
    obtain ⟨ao, co, zo, e2, h1o, h2o, h3o⟩ := rd_ints Try.underlying27 Try.underlying3 (by kernel_rfl) g2
    obtain ⟨n3, e3, _⟩ := rd_int Try.underlying3 g3
    obtain ⟨n4, e4, _⟩ := rd_int Try.underlying3 g4
    simp [Value.cells, portC] at e0 e1 e2 e3 e4
    subst e1 e2 e3 e4
    obtain ⟨rfl, rfl, rfl, rfl, rfl, rfl, rfl, rfl, rfl, rfl, rfl, rfl, rfl, rfl, rfl, rfl, rfl, rfl⟩ := e0
    exact ⟨⟨dp, zi, zo, n3, n4⟩, ⟨Ap, ai, ci, ao, co⟩, rfl, ⟨hm, h3i, h3o⟩, lg, ly, len_max h1i h2i, len_max h1o h2o⟩
end
end Go.Proofs.Ytkmampichfbppaa
