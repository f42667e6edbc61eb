/- The reader beside local structs. -/
import Derived.Test.YtkmampichfbppaaDoorBox
import Derived.Test.YtkmampichfbppaaDoorDraw
namespace Go.Proofs.YtkmampichfbppaaDoor
open Go.RowKit

theorem rd_set {w : World} {rb m : Nat} (h : Rd w rb m) (a : Addr) (u : Value) (hb : rb < a.block) : Rd (w.setCell a u) rb m := h.grown (grown_set w a u) (fun k hk => by injection hk; omega)
theorem rd_alloc {w : World} {rb m : Nat} (h : Rd w rb m) (o : Obj) : Rd (w.alloc o) rb m := h.below ((Below.refl _ _).alloc (Nat.le_refl _) o)
end Go.Proofs.YtkmampichfbppaaDoor
