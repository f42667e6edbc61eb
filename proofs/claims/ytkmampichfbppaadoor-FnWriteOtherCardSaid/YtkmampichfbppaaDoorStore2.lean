/- Whole structs loaded and stored in a region that draws its order. -/
import Derived.Test.YtkmampichfbppaaDoorStore
namespace Go.Proofs.YtkmampichfbppaaDoor
open Go.RowKit

theorem step_load_box {P : Program} {w : World} {ops : Array Oper} {o : Oper} {a : Act} {K : Act → World → Prop} {Q : Exit → Act → World → Prop} {E : Prop} {t : TypeId} {p : Operand} (hop : o.op = .load t p)
    (hgd : o.guard = none) {b off : Nat} (hp : a.eval p = .pointer (some ⟨b, off, none⟩)) {cs : Array Value} {T : TypeId} (hb : w.heap[b]? = some (.cells cs T (0, 0)))
    {fs : Array Field} (hu : P.underlying t = some (.struct fs)) {n : Nat} (hn : (P.info? t).map (·.size) = some n) (hl : off + n ≤ cs.size) (vs : Array Value) (hv : ((cs.toList.drop off).take n).toArray = vs)
    (h : K (a.put o.dst (.agg vs)) w) : if Region.wanted o (yielded ops a.tmps) = true then Oper.wp P o a w K Q else E := by
  have hw : Region.wanted o (yielded ops a.tmps) = true := by simp [Region.wanted, hgd]
  rw [if_pos hw]
  unfold Oper.wp execOp
  have hr : (loadVar t ⟨b, off, none⟩).run P w = .ok (.agg vs) w := by
    have := run_loadCells (P := P) (off := off) hb n 0 #[] (by simpa using hl)
    simp at this
    rw [← hv]
    unfold loadVar
    simp [run_agg hu, run_info hn, loadCells, this]
  simp only [hop, Instr.loadAt, Instr.sureAddr, hp, Sem.run_bind, Sem.run_pure, Result.andThen_ok, hr]
  exact h
theorem step_store_any {P : Program} {w : World} {ops : Array Oper} {o : Oper} {a : Act} {K : Act → World → Prop} {Q : Exit → Act → World → Prop} {E : Prop} {t : TypeId} {p x : Operand} (hop : o.op = .store t p x) (hd : o.dst = none)
    (hgd : o.guard = none) {b off : Nat} (hp : a.eval p = .pointer (some ⟨b, off, none⟩)) {v : Value} (hx : a.eval x = v) {vs : Array Value} (hc : v.cells = vs) {cs : Array Value} {T : TypeId} (hb : w.heap[b]? = some (.cells cs T (0, 0)))
    {n : Nat} (hn : (P.info? t).map (·.size) = some n) (hs : vs.size = n) (h1 : vs.toList.all Value.oneCell' = true) (hl : off + n ≤ cs.size) (cs' : Array Value) (hcs0 : (cs.toList.take off ++ vs.toList ++ cs.toList.drop (off + n)).toArray = cs')
    (h : ∀ w', w'.heap[b]? = some (.cells cs' T (0, 0)) → w.grownBy w' (some b) → K a w') : if Region.wanted o (yielded ops a.tmps) = true then Oper.wp P o a w K Q else E := by
  have hw : Region.wanted o (yielded ops a.tmps) = true := by simp [Region.wanted, hgd]
  rw [if_pos hw]
  obtain ⟨w', hr, hh, hg⟩ := run_storeCells (P := P) b off T vs.toList 0 cs w hb (by simp; omega) (fun v hv => List.all_eq_true.1 h1 v hv)
  rw [Nat.add_zero, putAll_eq hs hl hcs0] at hh
  have hr2 : (storeVar t ⟨b, off, none⟩ v).run P w = .ok () w' := by
    unfold storeVar
    simp [run_info hn, hc, hs, hr]
  unfold Oper.wp execOp
  simp only [hop, Instr.storeAt, Instr.sureAddr, hp, hx, Sem.run_bind, Sem.run_pure, Result.andThen_ok, hr2]
  show K (a.put o.dst undef) w'
  rw [show a.put o.dst undef = a by rw [hd]; rfl]
  exact h w' hh hg
end Go.Proofs.YtkmampichfbppaaDoor
