/- How a receiver, a byte that came reads; the contracts as the exact statements call them. -/
import Derived.Test.YtmmdbbnmifpciaaRecvLaw
namespace Go.Proofs.Ytmmdbbnmifpciaa
open Go.RowKit Go.Deep Go.ChangeShapes Go.WideShapes
section
variable {H : Type} {enc : TypeId × Value → H} {w : World} {base : Nat} {spare : Nat → Bool} {held : Bool}
theorem rd_gots {fuel : Nat} {cs : List Value} {x : DataW H × List MemPlace} (h : DataW.trod enc Try.prog w base spare held fuel 39 cs = some x) :
    ∃ (ao : Option Addr) (cap : Nat) (gs : List Gt), cs = [.slice ao gs.length cap] ∧ gs.length ≤ cap ∧ cap ≤ maxLen ∧ Gts w ao gs := by
  refine rd_slice (α := Gt) (f := gtCells) (k := 2) gtCells_length (by decide) Try.underlying39 (by kernel_rfl : Try.prog.cellsOf 42 = 2) (fun n cs y hy => ?_) h
  obtain ⟨xs, m, _, _, hl, hxl, hg⟩ := DataW.trod_struct Try.underlying42 hy
  have hl3 : cs.length = 2 := hl.trans (by kernel_rfl)
  match cs, hl3 with
  | [c0, c1], _ =>
    obtain ⟨y0, g0⟩ := rd_fld hg hxl 0 _ rfl 0 1 3 rfl rfl (by kernel_rfl)
    obtain ⟨y1, g1⟩ := rd_fld hg hxl 1 _ rfl 1 1 3 rfl rfl (by kernel_rfl)
    obtain ⟨n0, e0, _⟩ := rd_int Try.underlying3 g0
    obtain ⟨n1, e1, _⟩ := rd_int Try.underlying3 g1
    simp at e0 e1
    subst e0 e1
    exact ⟨⟨n0, n1⟩, rfl⟩
theorem rd_got {r : Reach} {b0 : Nat} {v : Value} {d : DataW H} {p : List MemPlace} (hv : Value.okWide Try.prog w r b0 42 v) (h : DataW.Trod enc Try.prog w base spare held 42 v d p) :
    ∃ (n0 n1 : Int), v = .agg #[.int .i64 n0, .int .i64 n1] := by
  obtain ⟨cs, rfl, hsz⟩ := okWide_struct Try.underlying42 hv
  obtain ⟨l⟩ := cs
  match l, hsz.trans (by kernel_rfl : Try.prog.cellsOf 42 = 2) with
  | [c0, c1], _ =>
    obtain ⟨fuel, hf⟩ := h
    obtain ⟨xs, m, _, _, _, hxl, hg⟩ := DataW.trod_struct Try.underlying42 hf
    obtain ⟨y0, g0⟩ := rd_fld hg hxl 0 _ rfl 0 1 3 rfl rfl (by kernel_rfl)
    obtain ⟨y1, g1⟩ := rd_fld hg hxl 1 _ rfl 1 1 3 rfl rfl (by kernel_rfl)
    obtain ⟨n0, e0, _⟩ := rd_int Try.underlying3 g0
    obtain ⟨n1, e1, _⟩ := rd_int Try.underlying3 g1
    simp [Value.cells] at e0 e1
    subst e0 e1
    exact ⟨n0, n1, rfl⟩
theorem rd_receiver {r : Reach} {b0 : Nat} {v : Value} {d : DataW H} {p : List MemPlace} (hv : Value.okWide Try.prog w r b0 41 v) (h : DataW.Trod enc Try.prog w base spare held 41 v d p) :
    ∃ (n0 n1 : Int) (l : Bool) (n4 : Int) (ao : Option Addr) (cap : Nat) (xs : List Gt), v = .agg #[.int .i64 n0, .int .i64 n1, .slice ao xs.length cap, .bool l, .int .i64 n4] ∧ xs.length ≤ cap ∧ cap ≤ maxLen ∧ Gts w ao xs := by
  obtain ⟨cs, rfl, hsz⟩ := okWide_struct Try.underlying41 hv
  obtain ⟨l⟩ := cs
  match l, hsz.trans (by kernel_rfl : Try.prog.cellsOf 41 = 5) with
  | [c0, c1, c2, c3, c4], _ =>
    obtain ⟨fuel, hf⟩ := h
    obtain ⟨xs, m, _, _, _, hxl, hg⟩ := DataW.trod_struct Try.underlying41 hf
    obtain ⟨y0, g0⟩ := rd_fld hg hxl 0 _ rfl 0 1 3 rfl rfl (by kernel_rfl)
    obtain ⟨y1, g1⟩ := rd_fld hg hxl 1 _ rfl 1 1 3 rfl rfl (by kernel_rfl)
    obtain ⟨y2, g2⟩ := rd_fld hg hxl 2 _ rfl 2 1 39 rfl rfl (by kernel_rfl)
    obtain ⟨y3, g3⟩ := rd_fld hg hxl 3 _ rfl 3 1 4 rfl rfl (by kernel_rfl)
    obtain ⟨y4, g4⟩ := rd_fld hg hxl 4 _ rfl 4 1 3 rfl rfl (by kernel_rfl)
    obtain ⟨n0, e0, _⟩ := rd_int Try.underlying3 g0
    obtain ⟨n1, e1, _⟩ := rd_int Try.underlying3 g1
    obtain ⟨ao, cap, zs, e2, h1, h2, h3⟩ := rd_gots g2
    obtain ⟨bl, e3, _⟩ := DataW.trod_bool Try.underlying4 g3
    obtain ⟨n4, e4, _⟩ := rd_int Try.underlying3 g4
    simp [Value.cells] at e0 e1 e2 e3 e4
    subst e0 e1 e2 e3 e4
    exact ⟨n0, n1, bl, n4, ao, cap, zs, rfl, h1, h2, h3⟩
end
theorem rtickR_len (r t : Int) (z : List Gt) (l : Bool) (a : Int) : (rtickR r t z l a).g.length ≤ z.length := by
  cases e : recvB r t z a
  · rw [rtickR_no e]; simp
  · rw [rtickR_yes e]; exact Nat.le_refl _
theorem rputR_len (r t : Int) (z : List Gt) (l : Bool) (a : Int) (g : Gt) : (rputR r t z l a g).g.length ≤ z.length + 1 := by
  cases e : rputB r t z a g
  · rw [rputR_no e]; simp
  · by_cases hl : (z.length : Int) < r
    · rw [rputR_yes e hl]; simp
    · rw [rputR_full e hl]; simp
theorem specRecvTick_x (r t : Int) (l : Bool) (g : Int) (a : Option Addr) (z : List Gt) (c B : Nat) (w : World) (o : OwnG w B a c z) (lz : z.length ≤ 1048576) :
    Calls Try.prog 21 #[.agg #[.int .i64 r, .int .i64 t, .slice a z.length c, .bool l, .int .i64 g]] w (RPutP w (rtickR r t z l g)) := specRecvTick_any r t a z c l g w o.gts lz (own_nilcap o)
theorem implRecvTick_x (r t : Int) (l : Bool) (g : Int) (a : Option Addr) (z : List Gt) (c B : Nat) (w : World) (o : OwnG w B a c z) (lz : z.length ≤ 1048576) :
    Calls Try.prog 13 #[.agg #[.int .i64 r, .int .i64 t, .slice a z.length c, .bool l, .int .i64 g]] w (RPutP w (rtickR r t z l g)) := implRecvTick_any r t a z c l g w o.gts lz
end Go.Proofs.Ytmmdbbnmifpciaa
