/- A struct that lies whole in a block is stored, loaded: one step. -/
import Derived.Test.YtkmampichfbppaaDoorBox2
namespace Go.Proofs.YtkmampichfbppaaDoor
open Go.RowKit

/-- cs with vs laid over it from i on. -/
def putAll (cs : Array Value) (i : Nat) : List Value → Array Value
  | [] => cs
  | v :: r => putAll (cs.setIfInBounds i v) (i + 1) r
theorem putAll_size (vs : List Value) : ∀ (cs : Array Value) (i : Nat), (putAll cs i vs).size = cs.size := by
  induction vs with
  | nil => intro cs i; rfl
  | cons v r ih => intro cs i; rw [putAll, ih]; simp
theorem putAll_list (vs : List Value) : ∀ (cs : Array Value) (i : Nat), i + vs.length ≤ cs.size → (putAll cs i vs).toList = cs.toList.take i ++ vs ++ cs.toList.drop (i + vs.length) := by
  induction vs with
  | nil => intro cs i _; simp [putAll]
  | cons v r ih =>
    intro cs i hl
    simp only [List.length_cons] at hl
    rw [putAll, ih _ _ (by simp; omega)]
    have hi : i < cs.toList.length := by simp; omega
    have e1 : (cs.setIfInBounds i v).toList = cs.toList.set i v := by simp
    rw [e1, List.take_set, List.take_succ_eq_append_getElem hi, List.drop_set_of_lt (by omega)]
    have e2 : (cs.toList.take i ++ [cs.toList[i]]).set i v = cs.toList.take i ++ [v] := by
      rw [List.set_append_right _ _ (by simp; omega)]
      simp [Nat.min_eq_left (show i ≤ cs.size by simpa using Nat.le_of_lt hi)]
    rw [e2, List.append_assoc, List.append_assoc, List.append_assoc]
    simp [Nat.add_assoc, Nat.add_comm 1]
theorem putAll_eq {vs : Array Value} {cs cs' : Array Value} {i n : Nat} (hs : vs.size = n) (hl : i + n ≤ cs.size) (h : (cs.toList.take i ++ vs.toList ++ cs.toList.drop (i + n)).toArray = cs') : putAll cs i vs.toList = cs' := by
  have := putAll_list vs.toList cs i (by simp; omega)
  rw [← h, ← hs]
  apply Array.ext'
  simpa using this
theorem set_only (w : World) (b i : Nat) (v : Value) : w.grownBy (w.setCell ⟨b, i, none⟩ v) (some b) := only_setR (only_refl _ _) _ _
theorem heap_set {w : World} {b i : Nat} {cs : Array Value} {T : TypeId} (h : w.heap[b]? = some (.cells cs T (0, 0))) (u : Value) : (w.setCell ⟨b, i, none⟩ u).heap[b]? = some (.cells (cs.setIfInBounds i u) T (0, 0)) := by
  simp [World.setCell, Array.getElem?_modify, h]
theorem run_storeCells {P : Program} (b off : Nat) (T : TypeId) : ∀ (vs : List Value) (i : Nat) (cs : Array Value) (w : World), w.heap[b]? = some (.cells cs T (0, 0)) → off + i + vs.length ≤ cs.size → (∀ v ∈ vs, v.oneCell' = true) →
    ∃ w', (storeCells ⟨b, off, none⟩ vs i).run P w = .ok () w' ∧ w'.heap[b]? = some (.cells (putAll cs (off + i) vs) T (0, 0)) ∧ w.grownBy w' (some b) := by
  intro vs
  induction vs with
  | nil =>
    intro i cs w h _ _
    exact ⟨w, by simp [storeCells], h, World.grownBy.refl _ _⟩
  | cons v r ih =>
    intro i cs w h hl h1
    have hi : off + i < cs.size := by simp at hl; omega
    have hc : w.cell? ⟨b, off + i, none⟩ = some cs[off + i] := by simp [World.cell?, h, hi]
    have hf : w.frozen? ⟨b, off + i, none⟩ = false := by simp [World.frozen?, h]
    obtain ⟨w', hr, hh, hg⟩ := ih (i + 1) (cs.setIfInBounds (off + i) v) (w.setCell ⟨b, off + i, none⟩ v) (heap_set h v) (by simp at hl ⊢; omega) (fun u hu => h1 u (List.mem_cons_of_mem _ hu))
    refine ⟨w', ?_, hh, grownBy_trans (set_only w b (off + i) v) hg⟩
    have ha : (⟨b, off, none⟩ : Addr).add i = ⟨b, off + i, none⟩ := by rw [Addr.add_lit]
    rw [storeCells]
    simp only [Sem.run_bind, run_store P w _ v _ (h1 v List.mem_cons_self), ha, hc, hf]
    simp [hr]
theorem run_loadCells {P : Program} {b off : Nat} {T : TypeId} {cs : Array Value} {w : World} (h : w.heap[b]? = some (.cells cs T (0, 0))) : ∀ (n i : Nat) (acc : Array Value), off + i + n ≤ cs.size →
    (loadCellsFrom ⟨b, off, none⟩ i n acc).run P w = .ok (acc.toList ++ (cs.toList.drop (off + i)).take n).toArray w := by
  intro n
  induction n with
  | zero => intro i acc _; simp [loadCellsFrom]
  | succ n ih =>
    intro i acc hl
    have hi : off + i < cs.size := by omega
    have hc : w.cell? ⟨b, off + i, none⟩ = some cs[off + i] := by simp [World.cell?, h, hi]
    have ha : (⟨b, off, none⟩ : Addr).add i = ⟨b, off + i, none⟩ := by rw [Addr.add_lit]
    have hd : cs.toList.drop (off + i) = cs[off + i] :: cs.toList.drop (off + (i + 1)) := by
      rw [List.drop_eq_getElem_cons (by simpa using hi)]
      simp [Nat.add_assoc]
    rw [loadCellsFrom]
    simp only [Sem.run_bind, run_load, ha, hc, Result.andThen_ok]
    rw [ih (i + 1) (acc.push cs[off + i]) (by omega), hd]
    simp
theorem run_info {P : Program} {t : TypeId} {n : Nat} (h : (P.info? t).map (·.size) = some n) (w : World) : (sizeOf t).run P w = .ok n w := by
  obtain ⟨i, hi, rfl⟩ := Option.map_eq_some_iff.1 h
  simp [sizeOf, typeInfo, hi]
theorem run_agg {P : Program} {t : TypeId} {fs : Array Field} (h : P.underlying t = some (.struct fs)) (w : World) : (isAgg t).run P w = .ok true w := by
  simp [isAgg, run_underlying h]
theorem load_box {P : Program} {w : World} {b : Nat} {cs : Array Value} {T : TypeId} (hb : w.heap[b]? = some (.cells cs T (0, 0))) {t : TypeId} {fs : Array Field} (hu : P.underlying t = some (.struct fs)) {n : Nat} (hn : (P.info? t).map (·.size) = some n) (hl : cs.size = n) :
    (loadVar t ⟨b, 0, none⟩).run P w = .ok (.agg cs) w := by
  have := run_loadCells (P := P) (off := 0) hb n 0 #[] (by omega)
  simp at this
  have e : cs.toList.take n = cs.toList := List.take_of_length_le (by simp [hl])
  rw [e] at this
  unfold loadVar
  simp [run_agg hu, run_info hn, loadCells, this]
/-- A struct (or a part of one that is a struct) is loaded. -/
theorem wpList_load_box {P : Program} (w : World) {ops : Array Oper} {rest : List Oper} {o : Oper} {a : Act} {Q : Exit → Act → World → Prop} {t : TypeId} {p : Operand} (hop : o.op = .load t p)
    (hw : Region.wanted o (yielded ops a.tmps) = true) {b off : Nat} (hp : a.eval p = .pointer (some ⟨b, off, none⟩)) {cs : Array Value} {T : TypeId} (hb : w.heap[b]? = some (.cells cs T (0, 0)))
    {fs : Array Field} (hu : P.underlying t = some (.struct fs)) {n : Nat} (hn : (P.info? t).map (·.size) = some n) (hl : off + n ≤ cs.size) (vs : Array Value) (hv : ((cs.toList.drop off).take n).toArray = vs)
    (h : wpList P ops Q rest (a.put o.dst (.agg vs)) w) : wpList P ops Q (o :: rest) a w := by
  unfold wpList
  rw [if_pos hw]
  refine .inl ?_
  unfold Oper.wp execOp
  have hr : (loadVar t ⟨b, off, none⟩).run P w = .ok (.agg vs) w := by
    have := run_loadCells (P := P) (off := off) hb n 0 #[] (by simpa using hl)
    simp at this
    rw [← hv]
    unfold loadVar
    simp [run_agg hu, run_info hn, loadCells, this]
  simp only [hop, Instr.loadAt, Instr.sureAddr, hp, Sem.run_bind, Sem.run_pure, Result.andThen_ok, hr]
  exact h
/-- A struct is stored into a block, or into a part of it. -/
theorem wpList_store_box {P : Program} (w : World) {ops : Array Oper} {rest : List Oper} {o : Oper} {a : Act} {Q : Exit → Act → World → Prop} {t : TypeId} {p x : Operand} (hop : o.op = .store t p x) (hd : o.dst = none)
    (hw : Region.wanted o (yielded ops a.tmps) = true) {b off : Nat} (hp : a.eval p = .pointer (some ⟨b, off, none⟩)) {vs : Array Value} (hx : a.eval x = .agg vs) {cs : Array Value} {T : TypeId} (hb : w.heap[b]? = some (.cells cs T (0, 0)))
    {n : Nat} (hn : (P.info? t).map (·.size) = some n) (hs : vs.size = n) (h1 : vs.toList.all Value.oneCell' = true) (hl : off + n ≤ cs.size) (cs' : Array Value) (hcs0 : (cs.toList.take off ++ vs.toList ++ cs.toList.drop (off + n)).toArray = cs')
    (h : ∀ w', w'.heap[b]? = some (.cells cs' T (0, 0)) → w.grownBy w' (some b) → wpList P ops Q rest a w') : wpList P ops Q (o :: rest) a w := by
  unfold wpList
  rw [if_pos hw]
  refine .inl ?_
  obtain ⟨w', hr, hh, hg⟩ := run_storeCells (P := P) b off T vs.toList 0 cs w hb (by simp; omega) (fun v hv => List.all_eq_true.1 h1 v hv)
  rw [Nat.add_zero, putAll_eq hs hl hcs0] at hh
  have hr2 : (storeVar t ⟨b, off, none⟩ (.agg vs)).run P w = .ok () w' := by
    unfold storeVar
    simp [run_info hn, Value.cells, hs, hr]
  unfold Oper.wp execOp
  simp only [hop, Instr.storeAt, Instr.sureAddr, hp, hx, Sem.run_bind, Sem.run_pure, Result.andThen_ok, hr2]
  show wpList P ops Q rest (a.put o.dst undef) w'
  rw [show a.put o.dst undef = a by rw [hd]; rfl]
  exact h w' hh hg
/-- A value of one cell, or a struct, is stored into a part of a block. -/
theorem wpList_store_any {P : Program} (w : World) {ops : Array Oper} {rest : List Oper} {o : Oper} {a : Act} {Q : Exit → Act → World → Prop} {t : TypeId} {p x : Operand} (hop : o.op = .store t p x) (hd : o.dst = none)
    (hw : Region.wanted o (yielded ops a.tmps) = true) {b off : Nat} (hp : a.eval p = .pointer (some ⟨b, off, none⟩)) {v : Value} (hx : a.eval x = v) {vs : Array Value} (hc : v.cells = vs) {cs : Array Value} {T : TypeId} (hb : w.heap[b]? = some (.cells cs T (0, 0)))
    {n : Nat} (hn : (P.info? t).map (·.size) = some n) (hs : vs.size = n) (h1 : vs.toList.all Value.oneCell' = true) (hl : off + n ≤ cs.size) (cs' : Array Value) (hcs0 : (cs.toList.take off ++ vs.toList ++ cs.toList.drop (off + n)).toArray = cs')
    (h : ∀ w', w'.heap[b]? = some (.cells cs' T (0, 0)) → w.grownBy w' (some b) → wpList P ops Q rest a w') : wpList P ops Q (o :: rest) a w := by
  unfold wpList
  rw [if_pos hw]
  refine .inl ?_
  obtain ⟨w', hr, hh, hg⟩ := run_storeCells (P := P) b off T vs.toList 0 cs w hb (by simp; omega) (fun v hv => List.all_eq_true.1 h1 v hv)
  rw [Nat.add_zero, putAll_eq hs hl hcs0] at hh
  have hr2 : (storeVar t ⟨b, off, none⟩ v).run P w = .ok () w' := by
    unfold storeVar
    simp [run_info hn, hc, hs, hr]
  unfold Oper.wp execOp
  simp only [hop, Instr.storeAt, Instr.sureAddr, hp, hx, Sem.run_bind, Sem.run_pure, Result.andThen_ok, hr2]
  show wpList P ops Q rest (a.put o.dst undef) w'
  rw [show a.put o.dst undef = a by rw [hd]; rfl]
  exact h w' hh hg
theorem results_cell {P : Program} {fn : Func} {tmps : Array Value} {w : World} {k b : Nat} {T : TypeId} {v : Value} (hr : fn.results = #[.cell k T]) (hk : tmps.getD k undef = .pointer (some ⟨b, 0, none⟩)) (hl : (loadVar T ⟨b, 0, none⟩).run P w = .ok v w) :
    (results fn tmps).run P w = .ok v w := by
  have hk' : tmps[k]?.getD undef = .pointer (some ⟨b, 0, none⟩) := by simpa using hk
  simp [results, hr, hk', hl, asAddr]
theorem results_cell2 {P : Program} {fn : Func} {tmps : Array Value} {w : World} {k b s : Nat} {T : TypeId} {v u : Value} (hr : fn.results = #[.cell k T, .tmp s]) (hk : tmps.getD k undef = .pointer (some ⟨b, 0, none⟩)) (hu : tmps.getD s undef = u) (hl : (loadVar T ⟨b, 0, none⟩).run P w = .ok v w) :
    (results fn tmps).run P w = .ok (.tuple #[v, u]) w := by
  have hk' : tmps[k]?.getD undef = .pointer (some ⟨b, 0, none⟩) := by simpa using hk
  have hu' : tmps[s]?.getD undef = u := by simpa using hu
  simp [results, hr, hk', hl, hu', asAddr]
theorem results_cell3 {P : Program} {fn : Func} {tmps : Array Value} {w : World} {k b s s2 : Nat} {T : TypeId} {v u u2 : Value} (hr : fn.results = #[.cell k T, .tmp s, .tmp s2]) (hk : tmps.getD k undef = .pointer (some ⟨b, 0, none⟩)) (hu : tmps.getD s undef = u) (hu2 : tmps.getD s2 undef = u2) (hl : (loadVar T ⟨b, 0, none⟩).run P w = .ok v w) :
    (results fn tmps).run P w = .ok (.tuple #[v, u, u2]) w := by
  have hk' : tmps[k]?.getD undef = .pointer (some ⟨b, 0, none⟩) := by simpa using hk
  have hu' : tmps[s]?.getD undef = u := by simpa using hu
  have hu2' : tmps[s2]?.getD undef = u2 := by simpa using hu2
  simp [results, hr, hk', hl, hu', hu2', asAddr]
end Go.Proofs.YtkmampichfbppaaDoor
