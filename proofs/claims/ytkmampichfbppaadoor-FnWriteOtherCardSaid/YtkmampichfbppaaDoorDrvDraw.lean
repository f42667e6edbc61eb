/- Ports and drivers: modems and rings are drawn. -/
import Derived.Test.YtkmampichfbppaaDoorDriver2
import Derived.Test.YtkmampichfbppaaDoorRecvDraw2
import Derived.Test.YtkmampichfbppaaDoorSendDraw
namespace Go.Proofs.YtkmampichfbppaaDoor
open Go.RowKit

set_option maxHeartbeats 2000000 in
theorem l91Modem_any (rb m : Nat) (w : World) (h : Rd w rb m) (hm : m ≤ 1000) :
    Calls Tryd.prog 34 #[.pointer (some ⟨rb, 0, none⟩)] w fun e w' => ∃ (m1 m2 m3 m4 : Bool), e = .returned (.agg #[.bool m1, .bool m2, .bool m3, .bool m4]) ∧ Rd w' rb (m + 4) ∧ w.grownBy w' (some rb) := by
  have hrb := h.lt
  go_enter Tryd.func34, Tryd.ntmps34
  go_wp2_with fail
  refine name_calls fun W hW => ?_
  have R : Rd W rb m := by rw [hW]; exact rd_alloc h _
  have G : w.grownBy W (some rb) := by rw [hW]; exact only_below ((Below.refl _ _).alloc (Nat.le_refl _) _) _
  have H0 : W.heap[w.heap.size]? = some (.cells #[.bool false, .bool false, .bool false, .bool false] 32 (0, 0)) := by rw [hW]; exact heap_new_at _ _ _ rfl
  clear hW h
  refine (pick_any rb _ (2) _ R (by omega)).mono ?_
  rintro e w1 ⟨k1, rfl, k10, k11, R', g'⟩
  replace R := R'
  replace G := only_trans G g'
  replace H0 := box_only H0 g' hrb
  clear R' g'
  go_wp2_with fail
  refine (pick_any rb _ (2) _ R (by omega)).mono ?_
  rintro e w2 ⟨k2, rfl, k20, k21, R', g'⟩
  replace R := R'
  replace G := only_trans G g'
  replace H0 := box_only H0 g' hrb
  clear R' g'
  go_wp2_with fail
  refine (pick_any rb _ (4) _ R (by omega)).mono ?_
  rintro e w3 ⟨k3, rfl, k30, k31, R', g'⟩
  replace R := R'
  replace G := only_trans G g'
  replace H0 := box_only H0 g' hrb
  clear R' g'
  go_wp2_with fail
  refine (pick_any rb _ (4) _ R (by omega)).mono ?_
  rintro e w4 ⟨k4, rfl, k40, k41, R', g'⟩
  replace R := R'
  replace G := only_trans G g'
  replace H0 := box_only H0 g' hrb
  clear R' g'
  obtain ⟨d0, d1, d2, d3, e0, e1, e2, e3⟩ := four_cells H0
  have HR := Lib.hid R
  have HG := Lib.hid G
  clear R G
  go_wp2
  refine bodyPost_ret (v := .agg #[.bool (k1 == 0), .bool (k2 == 0), .bool (k3 == 0), .bool (k4 == 0)]) (by simp [results, Tryd.results34, go_sem, *]) rfl ?_
  have gF : w4.grownBy ((((w4.setCell ⟨w.heap.size, 0, none⟩ (.bool (k1 == 0))).setCell ⟨w.heap.size, 1, none⟩ (.bool (k2 == 0))).setCell ⟨w.heap.size, 2, none⟩ (.bool (k3 == 0))).setCell ⟨w.heap.size, 3, none⟩ (.bool (k4 == 0))) (some w.heap.size) := only_setR (only_setR (only_setR (only_setR (only_refl _ _) _ _) _ _) _ _) _ _
  exact ⟨_, _, _, _, rfl, HR.out.grown gF (fun k e => by injection e with e; omega), only_grown HG.out gF (fun k e => by injection e with e; omega)⟩
end Go.Proofs.YtkmampichfbppaaDoor
