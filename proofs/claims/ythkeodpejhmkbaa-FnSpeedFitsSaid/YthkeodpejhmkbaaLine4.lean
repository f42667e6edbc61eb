/- Lines: formats, bytes and lines are drawn. -/
import Derived.Test.YthkeodpejhmkbaaLine3
namespace Go.Proofs.Ythkeodpejhmkbaa
open Go.RowKit

set_option maxHeartbeats 4000000 in
theorem l91Format_any (rb m : Nat) (w : World) (h : Rd w rb m) (hm : m ≤ 1000) :
    Calls Try.prog 36 #[.pointer (some ⟨rb, 0, none⟩)] w fun e w' => ∃ (b p s : Int), e = .returned (.agg #[.int .i64 b, .int .i64 p, .int .i64 s]) ∧ -1 ≤ b ∧ b ≤ 9 ∧ Rd w' rb (m + 10) ∧ w.grownBy w' (some rb) := by
  have hrb := h.lt
  go_enter Try.func36, Try.ntmps36
  go_wp2_with fail
  refine name_calls fun W hW => ?_
  have R : Rd W rb m := by rw [hW]; exact rd_alloc h _
  have G : w.grownBy W (some rb) := by rw [hW]; exact only_below ((Below.refl _ _).alloc (Nat.le_refl _) _) _
  have H0 : W.heap[w.heap.size]? = some (.cells #[.int .i64 0, .int .i64 0, .int .i64 0] 40 (0, 0)) := by rw [hW]; exact heap_new_at _ _ _ rfl
  clear hW h
  refine (pick_any rb _ 4 W R (by omega)).mono ?_
  rintro e w1 ⟨k1, rfl, k10, k11, R', g'⟩
  replace R := R'
  replace G := only_trans G g'
  replace H0 := box_only H0 g' hrb
  clear R' g'
  go_wp2_with fail
  refine (pick_any rb _ (3) _ R (by omega)).mono ?_
  rintro e w2 ⟨k2, rfl, k20, k21, R', g'⟩
  replace R := R'
  replace G := only_trans G g'
  replace H0 := box_only H0 g' hrb
  clear R' g'
  go_wp2_with fail
  refine (pick_any rb _ (2) _ R (by omega)).mono ?_
  rintro e w3 ⟨k3, rfl, k30, k31, R', g'⟩
  replace R := R'
  replace G := only_trans G g'
  replace H0 := box_only H0 g' hrb
  clear R' g'
  go_wp2_with fail
  refine name_calls fun W2 hW2 => ?_
  have z3 := box_lt H0
  have F : FS w W2 rb w3.heap.size (m + 1 + 1 + 1) #[.int .i64 0, .int .i64 0, .int .i64 0] #[.int .i64 (5 + k1), .int .i64 k2, .int .i64 (1 + k3)] 40 3 1 none 0 0 [] := by
    rw [hW2]
    exact { rl := hrb, bl := by omega, ne := by decide, R := rd_alloc R _, G := only_alloc G _, H0 := box_alloc H0 _, H := heap_new_at _ _ _ rfl, o := World.ownsRow_nil _ _ _ _ }
  clear hW2 R G H0
  generalize w3.heap.size = b3 at *
  refine (pick_any rb _ 40 W2 F.R (by omega)).mono ?_
  rintro e w9 ⟨k9, rfl, k90, k91, R', g'⟩
  replace F := F.pick R' g'
  clear R' g'
  by_cases h0 : k9 = 0
  · subst h0
    go_wp2_with fail
    refine name_calls fun WA hWA => ?_
    have rA : Ints WA (some ⟨w9.heap.size, 0, none⟩) [4, 9] := by rw [hWA]; exact ints_new w9 [4, 9] _ _ rfl
    have hz4 := Nat.lt_trans F.rl F.zlt
    replace F := F.alloc (.cells #[.int .i64 4, .int .i64 9] 3)
    rw [← hWA] at F
    clear hWA
    refine (pick_any rb _ 2 WA F.R (by omega)).mono ?_
    rintro e w10 ⟨k5, rfl, k50, k51, R5, g5⟩
    replace rA := cells_only rA g5 hz4
    replace F := F.pick R5 g5
    obtain ⟨j, rfl⟩ := Int.eq_ofNat_of_zero_le k50
    have hj : j < 2 := by omega
    have hjI : (j : Int) < 2 := by omega
    obtain ⟨b, off, v, hb, hv, hcv⟩ := Ints.at_ rA (k := j) hj
    injection hb with hb
    injection hb with hb1 hb2 _
    subst hb1 hb2
    rw [Nat.zero_add] at hcv
    have hv2 : -1 ≤ v ∧ v ≤ 9 := by
      have := List.mem_of_getElem? hv
      simp at this
      omega
    have hv0 := hv2.1
    have hv1 := hv2.2
    clear hv hv2 rA k51 R5 g5
    obtain ⟨c0, c1, c2, f0, f1, f2⟩ := three_cells F.H
    obtain ⟨d0, d1, d2, e0, e1, e2⟩ := three_cells F.H0
    have hne := F.bl
    have hne2 : b3 ≠ w.heap.size := by omega
    go_wp2
    refine bodyPost_ret (v := .agg #[.int .i64 (v), .int .i64 (k2), .int .i64 (1 + k3)]) (by simp [results, Try.results36, go_sem, *]) rfl ?_
    obtain ⟨RR, GG, _⟩ := FS.fin (F.set 0 (.int .i64 v)) (only_setR (only_setR (only_setR (only_refl _ _) 0 (.int .i64 (v))) 1 (.int .i64 (k2))) 2 (.int .i64 (1 + k3)))
    exact ⟨_, _, _, rfl, by omega, by omega, RR.mono (by omega), GG⟩
  have hb0 : (k9 == 0) = false := by simpa using h0
  by_cases h1 : k9 = 1
  · subst h1
    clear h0 hb0
    go_wp2_with fail
    refine name_calls fun WA hWA => ?_
    have rA : Ints WA (some ⟨w9.heap.size, 0, none⟩) [-1, 3] := by rw [hWA]; exact ints_new w9 [-1, 3] _ _ rfl
    have hz4 := Nat.lt_trans F.rl F.zlt
    replace F := F.alloc (.cells #[.int .i64 (-1), .int .i64 3] 3)
    rw [← hWA] at F
    clear hWA
    refine (pick_any rb _ 2 WA F.R (by omega)).mono ?_
    rintro e w10 ⟨k5, rfl, k50, k51, R5, g5⟩
    replace rA := cells_only rA g5 hz4
    replace F := F.pick R5 g5
    obtain ⟨j, rfl⟩ := Int.eq_ofNat_of_zero_le k50
    have hj : j < 2 := by omega
    have hjI : (j : Int) < 2 := by omega
    obtain ⟨b, off, v, hb, hv, hcv⟩ := Ints.at_ rA (k := j) hj
    injection hb with hb
    injection hb with hb1 hb2 _
    subst hb1 hb2
    rw [Nat.zero_add] at hcv
    have hv2 : -1 ≤ v ∧ v ≤ 9 := by
      have := List.mem_of_getElem? hv
      simp at this
      omega
    have hv0 := hv2.1
    have hv1 := hv2.2
    clear hv hv2 rA k51 R5 g5
    obtain ⟨c0, c1, c2, f0, f1, f2⟩ := three_cells F.H
    obtain ⟨d0, d1, d2, e0, e1, e2⟩ := three_cells F.H0
    have hne := F.bl
    have hne2 : b3 ≠ w.heap.size := by omega
    go_wp2
    refine bodyPost_ret (v := .agg #[.int .i64 (5 + k1), .int .i64 (v), .int .i64 (1 + k3)]) (by simp [results, Try.results36, go_sem, *]) rfl ?_
    obtain ⟨RR, GG, _⟩ := FS.fin (F.set 1 (.int .i64 v)) (only_setR (only_setR (only_setR (only_refl _ _) 0 (.int .i64 (5 + k1))) 1 (.int .i64 (v))) 2 (.int .i64 (1 + k3)))
    exact ⟨_, _, _, rfl, by omega, by omega, RR.mono (by omega), GG⟩
  have hb1 : (k9 == 1) = false := by simpa using h1
  by_cases h2 : k9 = 2
  · subst h2
    clear h0 hb0 h1 hb1
    go_wp2_with fail
    refine name_calls fun WA hWA => ?_
    have rA : Ints WA (some ⟨w9.heap.size, 0, none⟩) [0, 3] := by rw [hWA]; exact ints_new w9 [0, 3] _ _ rfl
    have hz4 := Nat.lt_trans F.rl F.zlt
    replace F := F.alloc (.cells #[.int .i64 0, .int .i64 3] 3)
    rw [← hWA] at F
    clear hWA
    refine (pick_any rb _ 2 WA F.R (by omega)).mono ?_
    rintro e w10 ⟨k5, rfl, k50, k51, R5, g5⟩
    replace rA := cells_only rA g5 hz4
    replace F := F.pick R5 g5
    obtain ⟨j, rfl⟩ := Int.eq_ofNat_of_zero_le k50
    have hj : j < 2 := by omega
    have hjI : (j : Int) < 2 := by omega
    obtain ⟨b, off, v, hb, hv, hcv⟩ := Ints.at_ rA (k := j) hj
    injection hb with hb
    injection hb with hb1 hb2 _
    subst hb1 hb2
    rw [Nat.zero_add] at hcv
    have hv2 : -1 ≤ v ∧ v ≤ 9 := by
      have := List.mem_of_getElem? hv
      simp at this
      omega
    have hv0 := hv2.1
    have hv1 := hv2.2
    clear hv hv2 rA k51 R5 g5
    obtain ⟨c0, c1, c2, f0, f1, f2⟩ := three_cells F.H
    obtain ⟨d0, d1, d2, e0, e1, e2⟩ := three_cells F.H0
    have hne := F.bl
    have hne2 : b3 ≠ w.heap.size := by omega
    go_wp2
    refine bodyPost_ret (v := .agg #[.int .i64 (5 + k1), .int .i64 (k2), .int .i64 (v)]) (by simp [results, Try.results36, go_sem, *]) rfl ?_
    obtain ⟨RR, GG, _⟩ := FS.fin (F.set 2 (.int .i64 v)) (only_setR (only_setR (only_setR (only_refl _ _) 0 (.int .i64 (5 + k1))) 1 (.int .i64 (k2))) 2 (.int .i64 (v)))
    exact ⟨_, _, _, rfl, by omega, by omega, RR.mono (by omega), GG⟩
  have hb2 : (k9 == 2) = false := by simpa using h2
  clear h0 h1 h2
  obtain ⟨c0, c1, c2, f0, f1, f2⟩ := three_cells F.H
  obtain ⟨d0, d1, d2, e0, e1, e2⟩ := three_cells F.H0
  have hne := F.bl
  have hne2 : b3 ≠ w.heap.size := by omega
  go_wp2
  refine bodyPost_ret (v := .agg #[.int .i64 (5 + k1), .int .i64 (k2), .int .i64 (1 + k3)]) (by simp [results, Try.results36, go_sem, *]) rfl ?_
  obtain ⟨RR, GG, _⟩ := FS.fin (F) (only_setR (only_setR (only_setR (only_refl _ _) 0 (.int .i64 (5 + k1))) 1 (.int .i64 (k2))) 2 (.int .i64 (1 + k3)))
  exact ⟨_, _, _, rfl, by omega, by omega, RR.mono (by omega), GG⟩
set_option maxHeartbeats 2000000 in
theorem l91Bytes_any (rb m : Nat) (b p s : Int) (w : World) (h : Rd w rb m) (hm : m ≤ 1000) :
    Calls Try.prog 38 #[.pointer (some ⟨rb, 0, none⟩), .agg #[.int .i64 b, .int .i64 p, .int .i64 s], .int .i64 5] w fun e w' => ∃ (a : Option Addr) (xs : List Int) (c : Nat), e = .returned (.slice a xs.length c) ∧ xs.length ≤ 5 ∧ OwnI w' w.heap.size a c xs ∧ Rd w' rb (m + 6) ∧ w.grownBy w' (some rb) := by
  have hrb := h.lt
  go_enter Try.func38, Try.ntmps38
  go_wp2_with fail
  refine name_calls fun W hW => ?_
  have R : Rd W rb m := by rw [hW]; exact rd_alloc (rd_alloc h _) _
  have G : w.grownBy W (some rb) := by rw [hW]; exact only_below (((Below.refl _ _).alloc (Nat.le_refl _) _).alloc (by simp) _) _
  have H : W.heap[w.heap.size]? = some (.cells #[.int .i64 b, .int .i64 p, .int .i64 s] 40 (0, 0)) := by rw [hW]; exact box_alloc (heap_new_at w _ _ rfl) _
  have o : OwnI W w.heap.size (some ⟨w.heap.size + 1, 0, none⟩) 0 [] := by rw [hW]; exact own_made_at (w.alloc _) #[] _ _ 0 _ _ (by simp) (by simp) (by simp) rfl
  clear hW h
  refine (pick_any rb _ 6 W R (by omega)).mono ?_
  rintro e w1 ⟨k1, rfl, k10, k11, R', g'⟩
  replace o := own_only o g' (fun q hq => by have := (own_in o _ hq).1; simp at this; omega)
  replace R := R'
  replace G := only_trans G g'
  replace H := box_only H g' hrb
  obtain ⟨n, rfl⟩ := Int.eq_ofNat_of_zero_le k10
  have hn5 : n ≤ 5 := by omega
  clear R' g' k11 k10
  go_wp2_with fail
  go_loopw [7, 9] (fun v i wr => ∃ (k : Nat) (L : List Int) (a : Option Addr) (c : Nat), k ≤ n ∧ i = .int .i64 k ∧ v = .slice a k c ∧ L.length = k ∧ OwnI wr w.heap.size a c L ∧ Rd wr rb (m + 1 + k) ∧ w.grownBy wr (some rb) ∧ wr.heap[w.heap.size]? = some (.cells #[.int .i64 b, .int .i64 p, .int .i64 s] 40 (0, 0))) (fun _ i _ => n - (intOf i).toNat)
  case atStart => exact ⟨0, [], _, 0, Nat.zero_le _, rfl, rfl, rfl, o, R, G, H⟩
  case round =>
    clear o R G H
    obtain ⟨k, L, a, c, hk, rfl, rfl, hL, o, R, G, H⟩ := hrel
    have HL := Lib.hid hL
    have hoL : wr.ownsRow w.heap.size 3 1 (.slice a k c) k (L.map (Value.int .i64)) := by rw [← hL]; exact o
    clear hL o
    by_cases hlt : k < n
    · obtain ⟨c0, c1, c2, _, _, _⟩ := three_cells H
      go_wp2_with fail
      refine (l91Clamp_any b wr).mono ?_
      rintro e w' ⟨mm, rfl, m5, m7, rfl⟩
      go_wp2_with fail
      have hpw := pow_bd (show mm ≤ 9 by omega)
      refine (l1Power_any mm wr (by omega)).mono ?_
      rintro e w' ⟨rfl, rfl⟩
      generalize (2 ^ mm : Nat) = pw at *
      go_wp2_with fail
      refine (pick_any rb _ (pw : Int) wr R (by omega)).mono ?_
      rintro e w6 ⟨y, rfl, y0, y1, R6, g6⟩
      have o6 := own_only hoL g6 fun q hq => by have := own_lt hoL hq; omega
      have G6 := only_trans G g6
      have H6 := box_only H g6 hrb
      have z6 := G6.size
      clear hoL R G H g6 c0 c1 c2
      go_wp2_with (
        at_builtin
        refine name_list fun W hW => ?_
        have hoW : W.ownsRow w.heap.size 3 1 (.slice a k c) k (L.map (Value.int .i64)) := by rw [hW]; exact o6.alloc _
        have hRW : Rd W rb (m + 1 + (k + 1)) := by rw [hW]; exact (rd_alloc R6 _).mono (by omega)
        have hGW : w.grownBy W (some rb) := by rw [hW]; exact only_alloc G6 _
        have hHW : W.heap[w.heap.size]? = some (.cells #[.int .i64 b, .int .i64 p, .int .i64 s] 40 (0, 0)) := by rw [hW]; exact box_alloc H6 _
        have hcW : Cells W (some ⟨w6.heap.size, 0, none⟩) [.int .i64 y] := by rw [hW]; exact cells_new _ #[.int .i64 y] _ rfl
        have zW : w.heap.size ≤ W.heap.size := hGW.size
        clear hW o6 R6 G6 H6
        refine wpList_append_row W rfl _ _ _ rfl w.heap.size 3 _ 1 8 Try.underlying22 int_info rfl (by decide) a k c _ (by rfl) hoW (some ⟨w6.heap.size, 0, none⟩) 1 1 [.int .i64 y] (by rfl) hcW rfl (by simp [Value.oneCell']) (by simp) (by simp only [maxLen]; omega) (by omega) zW ?_
        intro a2 c2 w7 ho2 hg2
        have hr2 : ∀ q, (Value.slice a k c).ownBlock = some q → w.heap.size ≤ q := fun q hq => (hoW.lt q hq).1
        have G7 := only_grown hGW hg2 hr2
        have R7 := hRW.grown hg2 fun q hq => by have := hr2 q hq; omega
        have H7 := box_grow hHW hg2 (own_block_of (own_box_ne hoW hHW (by decide)))
        clear hoW hg2 hcW hRW hGW hHW hr2)
      go_roundw
      case rel => exact ⟨k + 1, L ++ [y], a2, c2, by omega, by go_num, by simp, by rw [List.length_append, HL.out]; rfl, OwnI.snoc (by rw [HL.out]; exact ho2), R7, G7, H7⟩
      case measure => simp [intOf]; omega
    · have hkn : k = n := by omega
      subst hkn
      have oR : OwnI wr w.heap.size a c L := by unfold OwnI; rw [HL.out]; exact hoL
      clear hoL
      go_wp2
      go_ret
      exact ⟨a, L, c, by rw [HL.out]; rfl, by rw [HL.out]; exact hn5, oR, R.mono (by omega), G⟩
end Go.Proofs.Ythkeodpejhmkbaa
