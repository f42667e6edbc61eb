/- Ports and drivers: modems and rings are drawn. -/
import Derived.Test.YtkmampichfbppaaDriver2
import Derived.Test.YtkmampichfbppaaRecvDraw2
import Derived.Test.YtkmampichfbppaaSendDraw
namespace Go.Proofs.Ytkmampichfbppaa
open Go.RowKit

set_option maxHeartbeats 2000000 in
theorem l91Modem_any (rb m : Nat) (w : World) (h : Rd w rb m) (hm : m ≤ 1000) :
    Calls Try.prog 97 #[.pointer (some ⟨rb, 0, none⟩)] w fun e w' => ∃ (m1 m2 m3 m4 : Bool), e = .returned (.agg #[.bool m1, .bool m2, .bool m3, .bool m4]) ∧ Rd w' rb (m + 4) ∧ w.grownBy w' (some rb) := by
  have hrb := h.lt
  go_enter Try.func97, Try.ntmps97
  go_wp2_with fail
  refine name_calls fun W hW => ?_
  have R : Rd W rb m := by rw [hW]; exact rd_alloc h _
  have G : w.grownBy W (some rb) := by rw [hW]; exact only_below ((Below.refl _ _).alloc (Nat.le_refl _) _) _
  have H0 : W.heap[w.heap.size]? = some (.cells #[.bool false, .bool false, .bool false, .bool false] 42 (0, 0)) := by rw [hW]; exact heap_new_at _ _ _ rfl
  clear hW h
  refine (pick_any rb _ (2) _ R (by omega)).mono ?_
  rintro e w1 ⟨k1, rfl, k10, k11, R', g'⟩
  replace R := R'
  replace G := only_trans G g'
  replace H0 := box_only H0 g' hrb
  clear R' g'
  go_wp2_with fail
  refine (pick_any rb _ (2) _ R (by omega)).mono ?_
  rintro e w2 ⟨k2, rfl, k20, k21, R', g'⟩
  replace R := R'
  replace G := only_trans G g'
  replace H0 := box_only H0 g' hrb
  clear R' g'
  go_wp2_with fail
  refine (pick_any rb _ (4) _ R (by omega)).mono ?_
  rintro e w3 ⟨k3, rfl, k30, k31, R', g'⟩
  replace R := R'
  replace G := only_trans G g'
  replace H0 := box_only H0 g' hrb
  clear R' g'
  go_wp2_with fail
  refine (pick_any rb _ (4) _ R (by omega)).mono ?_
  rintro e w4 ⟨k4, rfl, k40, k41, R', g'⟩
  replace R := R'
  replace G := only_trans G g'
  replace H0 := box_only H0 g' hrb
  clear R' g'
  obtain ⟨d0, d1, d2, d3, e0, e1, e2, e3⟩ := four_cells H0
  have HR := Lib.hid R
  have HG := Lib.hid G
  clear R G
  go_wp2
  refine bodyPost_ret (v := .agg #[.bool (k1 == 0), .bool (k2 == 0), .bool (k3 == 0), .bool (k4 == 0)]) (by simp [results, Try.results97, go_sem, *]) rfl ?_
  have gF : w4.grownBy ((((w4.setCell ⟨w.heap.size, 0, none⟩ (.bool (k1 == 0))).setCell ⟨w.heap.size, 1, none⟩ (.bool (k2 == 0))).setCell ⟨w.heap.size, 2, none⟩ (.bool (k3 == 0))).setCell ⟨w.heap.size, 3, none⟩ (.bool (k4 == 0))) (some w.heap.size) := only_setR (only_setR (only_setR (only_setR (only_refl _ _) _ _) _ _) _ _) _ _
  exact ⟨_, _, _, _, rfl, HR.out.grown gF (fun k e => by injection e with e; omega), only_grown HG.out gF (fun k e => by injection e with e; omega)⟩
set_option maxHeartbeats 2000000 in
set_option maxRecDepth 100000 in
theorem l92Ring_any (rb m : Nat) (w : World) (h : Rd w rb m) (hm : m ≤ 1000) :
    Calls Try.prog 53 #[.pointer (some ⟨rb, 0, none⟩)] w fun e w' => ∃ (a : Option Addr) (xs : List Int) (c : Nat), e = .returned (.slice a xs.length c) ∧ xs.length ≤ 32 ∧ OwnI w' w.heap.size a c xs ∧ Rd w' rb (m + 40) ∧ w.grownBy w' (some rb) := by
  have hrb := h.lt
  go_enter Try.func53, Try.ntmps53
  go_wp2_with fail
  refine name_calls fun W hW => ?_
  have R : Rd W rb m := by rw [hW]; exact rd_alloc h _
  have G : w.grownBy W (some rb) := by rw [hW]; exact only_below ((Below.refl _ _).alloc (Nat.le_refl _) _) _
  have o : OwnI W w.heap.size (some ⟨w.heap.size, 0, none⟩) 0 [] := by rw [hW]; exact own_made_at w #[] _ _ 0 _ _ rfl (Nat.le_refl _) (by simp) rfl
  clear hW h
  generalize some (⟨w.heap.size, 0, none⟩ : Addr) = a0 at *
  refine (pick_any rb _ 9 W R (by omega)).mono ?_
  rintro e w1 ⟨k1, rfl, k10, k11, R', g'⟩
  replace o := own_low o g' hrb
  replace R := R'
  replace G := only_trans G g'
  clear R' g'
  go_wp2_with fail
  refine (pick_any rb _ 10 w1 R (by omega)).mono ?_
  rintro e w2 ⟨k2, rfl, k20, k21, R', g'⟩
  replace o := own_low o g' hrb
  replace R := R'
  replace G := only_trans G g'
  clear R' g'
  obtain ⟨n, rfl⟩ := Int.eq_ofNat_of_zero_le k10
  have hn8 : n ≤ 8 := by omega
  clear k11 k10
  by_cases hk : k2 = 0
  case' pos =>
    subst hk
    go_wp2_with fail
    refine (pick_any rb _ 3 w2 R (by omega)).mono ?_
    rintro e w3 ⟨k3, rfl, k30, k31, R', g'⟩
    replace o := own_low o g' hrb
    replace R := R'
    replace G := only_trans G g'
    clear R' g'
    obtain ⟨j, rfl⟩ := Int.eq_ofNat_of_zero_le k30
    have hj : j ≤ 2 := by omega
    clear k31 k30
    obtain ⟨n', hn'⟩ : ∃ n' : Nat, (n' : Int) = 30 + (j : Int) := ⟨30 + j, by omega⟩
    go_wp2_with fail
    rw [← hn']
    have hn32 : n' ≤ 32 := by omega
    clear hn'
    obtain ⟨wx, rfl⟩ : ∃ wx : World, wx = w3 := ⟨_, rfl⟩
    obtain ⟨nn, rfl⟩ : ∃ nn : Nat, nn = n' := ⟨_, rfl⟩
  case' neg =>
    have hkb : (k2 == 0) = false := by simpa using hk
    clear hk
    go_wp2_with fail
    clear hkb
    have hn32 : n ≤ 32 := by omega
    replace R := R.mono (show m + 1 + 1 ≤ m + 1 + 1 + 1 by omega)
    obtain ⟨wx, rfl⟩ : ∃ wx : World, wx = w2 := ⟨_, rfl⟩
    obtain ⟨nn, rfl⟩ : ∃ nn : Nat, nn = n := ⟨_, rfl⟩
  all_goals
    go_loopw [3, 5] (fun v i wr => ∃ (k : Nat) (L : List Int) (bL : Option Addr) (dL : Nat), k ≤ nn ∧ i = .int .i64 k ∧ v = .slice bL k dL ∧ L.length = k ∧ Rd wr rb (m + 3 + k) ∧ w.grownBy wr (some rb) ∧ OwnI wr w.heap.size bL dL L) (fun _ i _ => nn - (intOf i).toNat)
    case atStart => exact ⟨0, [], _, 0, Nat.zero_le _, rfl, rfl, rfl, R, G, o⟩
    case round =>
      clear R G o
      obtain ⟨k, L, bL, dL, hk, rfl, rfl, hL, R, G, o⟩ := hrel
      have HL := Lib.hid hL
      have hoL : wr.ownsRow w.heap.size 3 1 (.slice bL k dL) k (L.map (Value.int .i64)) := by rw [← hL]; exact o
      clear hL o
      by_cases hlt : k < nn
      · go_wp2_with fail
        refine (pick_any rb _ 256 wr R (by omega)).mono ?_
        rintro e w6 ⟨y, rfl, y0, y1, R6, g6⟩
        have o6 := own_low hoL g6 hrb
        have G6 := only_trans G g6
        have z6 := G6.size
        clear hoL g6 G R
        go_wp2_with (
          at_builtin
          refine name_list fun Wq hq => ?_
          have hRW : Rd Wq rb (m + 3 + k + 1) := by rw [hq]; exact rd_alloc R6 _
          have hGW : w.grownBy Wq (some rb) := by rw [hq]; exact only_alloc G6 _
          have hoW : Wq.ownsRow w.heap.size 3 1 (.slice bL k dL) k (L.map (Value.int .i64)) := by rw [hq]; exact o6.alloc _
          have hcW : Cells Wq (some ⟨w6.heap.size, 0, none⟩) [.int .i64 y] := by rw [hq]; exact cells_new _ #[.int .i64 y] _ rfl
          have zW : w.heap.size ≤ Wq.heap.size := hGW.size
          clear hq o6 R6 G6
          refine wpList_append_row Wq rfl _ _ _ rfl w.heap.size 3 _ 1 8 Try.underlying27 int_info rfl (by decide) bL k dL _ (by rfl) hoW (some ⟨w6.heap.size, 0, none⟩) 1 1 [.int .i64 y] (by rfl) hcW rfl (by simp [Value.oneCell']) (by simp) (by simp only [maxLen]; omega) (by omega) zW ?_
          intro ao2 c3 w7 ho2 hg2
          have hkk := fun q hq => (hoW.lt q hq).1
          have R7 := hRW.grown hg2 (fun q hq => by have := hkk q hq; omega)
          have G7 := only_grown hGW hg2 (fun q hq => by have := hkk q hq; omega)
          clear hoW hg2 hcW hRW hGW zW hkk)
        go_roundw
        case rel => exact ⟨k + 1, L ++ [y], ao2, c3, by omega, by go_num, by simp, by rw [List.length_append, HL.out]; rfl, R7.mono (by omega), G7, OwnI.snoc (by rw [HL.out]; exact ho2)⟩
        case measure => simp [intOf]; omega
      · have hkn : k = nn := by omega
        subst hkn
        go_wp2
        go_ret
        refine ⟨bL, L, dL, by rw [HL.out]; rfl, by rw [HL.out]; omega, ?_, R.mono (by omega), G⟩
        unfold OwnI; rw [HL.out]; exact hoL
end Go.Proofs.Ytkmampichfbppaa
