/- errors.Is at the one sentinel, at nil. -/
import Derived.Test.YtkmampichfbppaaDoorFormat
import Derived.LaidEql
import Derived.Stop.Asserts
import Derived.RowKitTokens
import Derived.Deep.RegionHeld3
namespace Go.Proofs.YtkmampichfbppaaDoor
open Go.RowKit Go.Extern.Stop Go.Stop Go.Extern

/-- The program's one sentinel lies at a. -/
def Sent (w : World) (a : Addr) : Prop := w.cell? ⟨0, 0, none⟩ = some (.iface 118 (.pointer (some a)))
theorem Sent.keep {w w' : World} {a : Addr} (h : Sent w a) (k : Keeps w w') : Sent w' a := k _ _ _ h
theorem Sent.below {w w' : World} {a : Addr} (h : Sent w a) (b : Below w.heap.size w w') : Sent w' a := h.keep (.of_below b)
theorem Sent.lt {w : World} {a : Addr} (h : Sent w a) : 0 < w.heap.size := World.block_lt_of_cell? w _ h
theorem isTypeOf (v : Value) (w : World) : (Extern.ReflectliteType.typeOf #[.iface 118 v]).run Tryd.prog w = .ok (.iface 108 (.agg #[.pointer (some ⟨1, 118, none⟩)])) w := by kernel_rfl
theorem isComparable (w : World) : ((Extern.ReflectliteType.method fun t => do Go.Extern.Rtype.noPackHeld "Comparable" t; Functor.map (fun a => Value.bool a.comparable) (typeInfo t)) #[.agg #[.pointer (some ⟨1, 118, none⟩)]]).run Tryd.prog w = .ok (.bool true) w := by kernel_rfl
theorem isMethodComparable (v : Value) (w : World) : (Go.method 256 108 v "Comparable").run Tryd.prog w = .ok (78, v) w := by kernel_rfl
theorem isComp : (Tryd.prog.info? 118).map (·.comparable) = some true := by kernel_rfl
theorem isSize : (Tryd.prog.info? 144).map (·.size) = some 1 := by kernel_rfl
set_option maxRecDepth 100000 in
set_option maxHeartbeats 4000000 in
theorem is_same (a : Addr) (w : World) :
    Calls Tryd.prog 38 #[.iface 118 (.pointer (some a)), .iface 118 (.pointer (some a))] w fun e w' => e = .returned (.bool true) ∧ w = w' := by
  obtain ⟨i, hi, hcmp⟩ := Option.map_eq_some_iff.1 isComp
  obtain ⟨j, hj, hjs⟩ := Option.map_eq_some_iff.1 isSize
  have h8 := @run_callFunc_extern Tryd.prog 52 _ Extern.ReflectliteType.typeOf Tryd.func52 (by kernel_rfl) (by kernel_rfl) (by kernel_rfl) (by kernel_rfl)
  have h32 := @run_callFunc_extern Tryd.prog 78 _ (Extern.ReflectliteType.method fun t => do Go.Extern.Rtype.noPackHeld "Comparable" t; pure (.bool (← typeInfo t).comparable)) Tryd.func78 (by kernel_rfl) (by kernel_rfl) (by kernel_rfl) (by kernel_rfl)
  have tT := isTypeOf
  have cT := isComparable
  have mR := isMethodComparable
  have heq := run_eql_iface_ptr_same (P := Tryd.prog) w a Tryd.underlying75 Tryd.underlying118 hi hcmp hj
  go_enter Tryd.func38, Tryd.ntmps38
  go_wp2
  refine wp_loop_rounds 1 ?_
  rw [rounds_succ]
  go_wp2
  go_ret
  exact ⟨rfl, rfl⟩
theorem is_nil (b : Addr) (w : World) :
    Calls Tryd.prog 38 #[.nilIface, .iface 118 (.pointer (some b))] w fun e w' => e = .returned (.bool false) ∧ w = w' := by
  have hn := run_eql_iface_nil_left (P := Tryd.prog) w 118 (.pointer (some b)) Tryd.underlying75
  go_enter Tryd.func38, Tryd.ntmps38
  go_wp2
  go_ret
  exact ⟨rfl, rfl⟩

end Go.Proofs.YtkmampichfbppaaDoor
