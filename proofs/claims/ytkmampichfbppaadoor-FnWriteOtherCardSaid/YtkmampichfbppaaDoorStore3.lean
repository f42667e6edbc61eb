/- Whole structs loaded first in a region that draws its order. -/
import Derived.Test.YtkmampichfbppaaDoorStore2
import Derived.Deep.RegionHeld3
namespace Go.Proofs.YtkmampichfbppaaDoor
open Go.RowKit

/-- In every world in which the block stands so, the load gives the whole struct (or a part of it). -/
theorem yieldsIf_load_box {P : Program} {ops : Array Oper} {S : World → Prop} {o : Oper} {a : Act} {t : TypeId} {p : Operand} (hop : o.op = .load t p)
    (hgd : o.guard = none) {b off : Nat} (hp : a.eval p = .pointer (some ⟨b, off, none⟩)) {cs : Array Value} {T : TypeId} (hS : ∀ w, S w → w.heap[b]? = some (.cells cs T (0, 0)))
    {fs : Array Field} (hu : P.underlying t = some (.struct fs)) {n : Nat} (hn : (P.info? t).map (·.size) = some n) (hl : off + n ≤ cs.size) (vs : Array Value) (hv : ((cs.toList.drop off).take n).toArray = vs) :
    YieldsIf P ops S o (.agg vs) a := by
  refine .inl ⟨by simp [Region.wanted, hgd], fun w hw => ?_⟩
  have hr : (loadVar t ⟨b, off, none⟩).run P w = .ok (.agg vs) w := by
    have := run_loadCells (P := P) (off := off) (hS w hw) n 0 #[] (by simpa using hl)
    simp at this
    rw [← hv]
    unfold loadVar
    simp [run_agg hu, run_info hn, loadCells, this]
  unfold execOp
  simp only [hop, Instr.loadAt, Instr.sureAddr, hp, Sem.run_bind, Sem.run_pure, Result.andThen_ok, hr]
end Go.Proofs.YtkmampichfbppaaDoor
