/- Senders: the draws. -/
import Derived.Test.YtkmampichfbppaaDoorFS
import Derived.Test.YtkmampichfbppaaDoorFifo
namespace Go.Proofs.YtkmampichfbppaaDoor
open Go.RowKit

set_option maxHeartbeats 4000000 in
set_option maxRecDepth 100000 in
theorem l91Send_any (rb m : Nat) (w : World) (h : Rd w rb m) (hm : m ≤ 1000) :
    Calls Tryd.prog 33 #[.pointer (some ⟨rb, 0, none⟩)] w fun e w' => ∃ (r : Int) (a : Option Addr) (xs : List Int) (c : Nat) (hh l : Int), e = .returned (.agg #[.int .i64 r, .slice a xs.length c, .int .i64 hh, .int .i64 l]) ∧ xs.length ≤ 6 ∧ -1 ≤ r ∧ r ≤ 17 ∧ -1 ≤ hh ∧ hh ≤ 255 ∧ -1 ≤ l ∧ l ≤ 17 ∧ OwnI w' w.heap.size a c xs ∧ Rd w' rb (m + 20) ∧ w.grownBy w' (some rb) := by
  have hrb := h.lt
  go_enter Tryd.func33, Tryd.ntmps33
  go_wp2_with fail
  refine name_calls fun W hW => ?_
  have R0 : Rd W rb m := by rw [hW]; exact rd_alloc h _
  have G0 : w.grownBy W (some rb) := by rw [hW]; exact only_below ((Below.refl _ _).alloc (Nat.le_refl _) _) _
  have H0 : W.heap[w.heap.size]? = some (.cells #[.int .i64 0, .slice none 0 0, .int .i64 0, .int .i64 0] 30 (0, 0)) := by rw [hW]; exact heap_new_at _ _ _ rfl
  clear hW h
  refine (pick_any rb _ 6 W R0 (by omega)).mono ?_
  rintro e w1 ⟨k1, rfl, k10, k11, R1, g1⟩
  have G1 := only_trans G0 g1
  have H1 := box_only H0 g1 hrb
  have z1 := box_lt H1
  clear R0 G0 H0 g1
  go_wp2_with fail
  refine name_calls fun W2 hW2 => ?_
  have F2 : FS w W2 rb (w1.heap.size + 1) (m + 1) #[.int .i64 0, .slice none 0 0, .int .i64 0, .int .i64 0] #[.int .i64 (1 + k1), .slice (some ⟨w1.heap.size, 0, none⟩) 0 0, .int .i64 (-1), .int .i64 0] 30 3 1 (some ⟨w1.heap.size, 0, none⟩) 0 0 [] := by
    rw [hW2]
    exact { rl := hrb, bl := by omega, ne := by decide, R := rd_alloc (rd_alloc R1 _) _, G := only_alloc (only_alloc G1 _) _, H0 := box_alloc (box_alloc H1 _) _, H := heap_new_at _ _ _ (by simp), o := World.ownsRow.alloc (own_made_at w1 #[] _ _ 0 _ _ rfl (by omega) (by simp) rfl) _ }
  clear hW2 R1 G1 H1
  refine (pick_any rb _ (1 + k1 + 1) W2 F2.R (by omega)).mono ?_
  rintro e w3 ⟨k2, rfl, k20, k21, R3, g3⟩
  have F3 := F2.pick R3 g3
  obtain ⟨n, rfl⟩ := Int.eq_ofNat_of_zero_le k20
  have hn6 : n ≤ 6 := by omega
  clear F2 R3 g3 k21
  go_wp2_with fail
  generalize w1.heap.size + 1 = b3 at *
  generalize some (⟨w1.heap.size, 0, none⟩ : Addr) = a0 at *
  go_loopw [5] (fun i wr => ∃ (k : Nat) (a : Option Addr) (c : Nat) (xs : List Int), k ≤ n ∧ i = .int .i64 k ∧ xs.length = k ∧ FS w wr rb b3 (m + 2 + k) #[.int .i64 0, .slice none 0 0, .int .i64 0, .int .i64 0] #[.int .i64 (1 + k1), .slice a xs.length c, .int .i64 (-1), .int .i64 0] 30 3 1 a xs.length c (xs.map (Value.int .i64))) (fun i _ => n - (intOf i).toNat)
  case atStart => exact ⟨0, a0, 0, [], Nat.zero_le _, rfl, rfl, F3⟩
  case round =>
    obtain ⟨k, a, c, xs, hk, rfl, hx, F⟩ := hrel
    by_cases hlt : k < n
    · have F' := F.drew
      obtain ⟨c0, c1⟩ := cells4 F.H
      have hbl := F.blt
      have hxl : xs.length ≤ 6 := by omega
      have HX := Lib.hid hx
      clear hx
      go_wp2_with fail
      go_region_law (first
        | (refine step_append_row (by rfl) _ _ _ (by rfl) (w.heap.size + 1) 3 _ 1 8 Tryd.underlying28 int_info rfl (by decide) a xs.length c (xs.map (Value.int .i64)) (by rfl) ?ho (some ⟨_, 0, none⟩) 1 1 [.int .i64 k4] (by rfl) ?hn rfl (by simp [Value.oneCell']) (by simp) (by simp only [maxLen]; omega) (by omega) ?hb ?_
           case ho => exact World.ownsRow.alloc F4.o _
           case hn => exact cells_new _ #[.int .i64 k4] _ rfl
           case hb => (simp; omega)
           intro a7 c7 w7 ho7 hg7
           have F7 := (F4.alloc (.cells #[.int .i64 k4] 3)).grow ho7 hg7
           obtain ⟨d0, d1, d2, d3, f0, f1, f2, f3⟩ := four_cells F7.H
           skip)
        | (go_simp
           go_at_call 16
           refine (pick_any rb _ 256 _ F'.R (by omega)).mono ?_
           rintro e w4 ⟨k4, rfl, k40, k41, R4, g4⟩
           have F4 := F'.pick R4 g4
           obtain ⟨e0, e1, e2, e3⟩ := cells4 F4.H
           have hbl4 := F4.blt
           have zlt4 := F4.zlt
           skip))
      all_goals
        go_wp2
        go_roundw
        case rel =>
          exact ⟨k + 1, a7, c7, xs ++ [k4], by omega, by go_num, by rw [List.length_append, HX.out]; rfl, by simpa using (F7.set 1 (.slice a7 (xs.length + 1) c7)).mono (show m + 2 + k + 1 ≤ m + 2 + (k + 1) by omega)⟩
        case measure => simp [intOf]; omega
    · have hkn : k = n := by omega
      subst hkn
      subst hx
      have hxl : xs.length ≤ 6 := by omega
      clear hlt hk
      go_wp2_with fail
      refine (pick_any rb _ (2) _ F.R (by omega)).mono ?_
      rintro e w4 ⟨k4, rfl, k40, k41, R', g'⟩
      replace F := F.pick R' g'
      clear R' g'
      by_cases h2 : k4 = 0
      case' pos =>
        subst h2
        go_wp2_with fail
        refine (pick_any rb _ (256) _ F.R (by omega)).mono ?_
        rintro e w6 ⟨k6, rfl, k60, k61, R', g'⟩
        replace F := F.pick R' g'
        clear R' g'
        obtain ⟨c0, c1, c2, c3, f0, f1, f2, f3⟩ := four_cells F.H
        obtain ⟨d0, d1, d2, d3, e0, e1, e2, e3⟩ := four_cells F.H0
        have hne := F.bl
        have hne2 : b3 ≠ w.heap.size := by omega
        go_wp2_with fail
        refine name_calls fun W7 hW7 => ?_
        replace F := F.set 2 (.int .i64 k6)
        rw [← hW7] at F
        clear hW7 c0 c1 c2 c3 f0 f1 f2 f3 d0 d1 d2 d3 e0 e1 e2 e3 hne hne2
        refine (pick_any rb _ (3) _ F.R (by omega)).mono ?_
        rintro e w7 ⟨k7, rfl, k70, k71, R', g'⟩
        replace F := F.pick R' g'
        clear R' g'
        obtain ⟨c0, c1, c2, c3, f0, f1, f2, f3⟩ := four_cells F.H
        obtain ⟨d0, d1, d2, d3, e0, e1, e2, e3⟩ := four_cells F.H0
        have hne := F.bl
        have hne2 : b3 ≠ w.heap.size := by omega
        go_wp2_with fail
        refine name_calls fun W8 hW8 => ?_
        replace F := F.set 3 (.int .i64 (1 + k7))
        rw [← hW8] at F
        clear hW8 c0 c1 c2 c3 f0 f1 f2 f3 d0 d1 d2 d3 e0 e1 e2 e3 hne hne2
        have F8 : Hid (∃ hh l, -1 ≤ hh ∧ hh ≤ 255 ∧ -1 ≤ l ∧ l ≤ 17 ∧ FS w W8 rb b3 (m + 6 + xs.length) #[.int .i64 0, .slice none 0 0, .int .i64 0, .int .i64 0] #[.int .i64 (1 + k1), .slice a xs.length c, .int .i64 hh, .int .i64 l] 30 3 1 a xs.length c (xs.map (Value.int .i64))) := Lib.hid ⟨k6, 1 + k7, by omega, by omega, by omega, by omega, F.mono (by omega)⟩
        clear F k60 k61 k70 k71
      case' neg =>
        have hb2 : (k4 == 0) = false := by simpa using h2
        clear h2
        go_wp2_with fail
        obtain ⟨W8, rfl⟩ : ∃ W8 : World, W8 = w4 := ⟨_, rfl⟩
        have F8 : Hid (∃ hh l, -1 ≤ hh ∧ hh ≤ 255 ∧ -1 ≤ l ∧ l ≤ 17 ∧ FS w W8 rb b3 (m + 6 + xs.length) #[.int .i64 0, .slice none 0 0, .int .i64 0, .int .i64 0] #[.int .i64 (1 + k1), .slice a xs.length c, .int .i64 hh, .int .i64 l] 30 3 1 a xs.length c (xs.map (Value.int .i64))) := Lib.hid ⟨-1, 0, by omega, by omega, by omega, by omega, F.mono (by omega)⟩
        clear F
      all_goals
        obtain ⟨hh, l, hh0, hh1, l0, l1, F⟩ := F8.out
        clear F8
        refine (pick_any rb _ 30 _ F.R (by omega)).mono ?_
        rintro e w9 ⟨k9, rfl, k90, k91, R', g'⟩
        replace F := F.pick R' g'
        clear R' g'
        by_cases h0 : k9 = 0
        · subst h0
          go_wp2_with fail
          refine name_calls fun WA hWA => ?_
          have rA : Ints WA (some ⟨w9.heap.size, 0, none⟩) [-1, 0, 1, 4] := by rw [hWA]; exact ints_new w9 [-1, 0, 1, 4] _ _ rfl
          have hz4 := Nat.lt_trans F.rl F.zlt
          replace F := F.alloc (.cells #[.int .i64 (-1), .int .i64 0, .int .i64 1, .int .i64 4] 3)
          rw [← hWA] at F
          clear hWA
          refine (pick_any rb _ 4 WA F.R (by omega)).mono ?_
          rintro e w10 ⟨k5, rfl, k50, k51, R5, g5⟩
          replace rA := cells_only rA g5 hz4
          replace F := F.pick R5 g5
          obtain ⟨j, rfl⟩ := Int.eq_ofNat_of_zero_le k50
          have hj : j < 4 := by omega
          have hjI : (j : Int) < 4 := by omega
          obtain ⟨b, off, v, hb, hv, hcv⟩ := Ints.at_ rA (k := j) hj
          injection hb with hb
          injection hb with hb1 hb2 _
          subst hb1 hb2
          rw [Nat.zero_add] at hcv
          have hv2 : -1 ≤ v ∧ v ≤ 17 := by
            have := List.mem_of_getElem? hv
            simp at this
            omega
          have hv0 := hv2.1
          have hv1 := hv2.2
          clear hv hv2 rA k51 R5 g5
          obtain ⟨c0, c1, c2, c3, f0, f1, f2, f3⟩ := four_cells F.H
          obtain ⟨d0, d1, d2, d3, e0, e1, e2, e3⟩ := four_cells F.H0
          have hne := F.bl
          have hne2 : b3 ≠ w.heap.size := by omega
          go_wp2
          refine bodyPost_ret (v := .agg #[.int .i64 (1 + k1), .slice a xs.length c, .int .i64 (hh), .int .i64 (v)]) (by simp [results, Tryd.results33, go_sem, *]) rfl ?_
          obtain ⟨RR, GG, OO⟩ := FS.fin (F.set 3 (.int .i64 v)) (only_setR (only_setR (only_setR (only_setR (only_refl _ _) 0 (.int .i64 (1 + k1))) 1 (.slice a xs.length c)) 2 (.int .i64 (hh))) 3 (.int .i64 (v)))
          exact ⟨_, _, _, _, _, _, rfl, by omega, by omega, by omega, by omega, by omega, by omega, by omega, OO, RR.mono (by omega), GG⟩
        have hb0 : (k9 == 0) = false := by simpa using h0
        by_cases h1 : k9 = 1
        · subst h1
          clear h0 hb0
          go_wp2_with fail
          refine name_calls fun WA hWA => ?_
          have rA : Ints WA (some ⟨w9.heap.size, 0, none⟩) [0, 17] := by rw [hWA]; exact ints_new w9 [0, 17] _ _ rfl
          have hz4 := Nat.lt_trans F.rl F.zlt
          replace F := F.alloc (.cells #[.int .i64 0, .int .i64 17] 3)
          rw [← hWA] at F
          clear hWA
          refine (pick_any rb _ 2 WA F.R (by omega)).mono ?_
          rintro e w10 ⟨k5, rfl, k50, k51, R5, g5⟩
          replace rA := cells_only rA g5 hz4
          replace F := F.pick R5 g5
          obtain ⟨j, rfl⟩ := Int.eq_ofNat_of_zero_le k50
          have hj : j < 2 := by omega
          have hjI : (j : Int) < 2 := by omega
          obtain ⟨b, off, v, hb, hv, hcv⟩ := Ints.at_ rA (k := j) hj
          injection hb with hb
          injection hb with hb1 hb2 _
          subst hb1 hb2
          rw [Nat.zero_add] at hcv
          have hv2 : -1 ≤ v ∧ v ≤ 17 := by
            have := List.mem_of_getElem? hv
            simp at this
            omega
          have hv0 := hv2.1
          have hv1 := hv2.2
          clear hv hv2 rA k51 R5 g5
          obtain ⟨c0, c1, c2, c3, f0, f1, f2, f3⟩ := four_cells F.H
          obtain ⟨d0, d1, d2, d3, e0, e1, e2, e3⟩ := four_cells F.H0
          have hne := F.bl
          have hne2 : b3 ≠ w.heap.size := by omega
          go_wp2
          refine bodyPost_ret (v := .agg #[.int .i64 (v), .slice a xs.length c, .int .i64 (hh), .int .i64 (l)]) (by simp [results, Tryd.results33, go_sem, *]) rfl ?_
          obtain ⟨RR, GG, OO⟩ := FS.fin (F.set 0 (.int .i64 v)) (only_setR (only_setR (only_setR (only_setR (only_refl _ _) 0 (.int .i64 (v))) 1 (.slice a xs.length c)) 2 (.int .i64 (hh))) 3 (.int .i64 (l)))
          exact ⟨_, _, _, _, _, _, rfl, by omega, by omega, by omega, by omega, by omega, by omega, by omega, OO, RR.mono (by omega), GG⟩
        have hb1 : (k9 == 1) = false := by simpa using h1
        clear h0 h1
        obtain ⟨c0, c1, c2, c3, f0, f1, f2, f3⟩ := four_cells F.H
        obtain ⟨d0, d1, d2, d3, e0, e1, e2, e3⟩ := four_cells F.H0
        have hne := F.bl
        have hne2 : b3 ≠ w.heap.size := by omega
        go_wp2
        refine bodyPost_ret (v := .agg #[.int .i64 (1 + k1), .slice a xs.length c, .int .i64 (hh), .int .i64 (l)]) (by simp [results, Tryd.results33, go_sem, *]) rfl ?_
        obtain ⟨RR, GG, OO⟩ := FS.fin (F) (only_setR (only_setR (only_setR (only_setR (only_refl _ _) 0 (.int .i64 (1 + k1))) 1 (.slice a xs.length c)) 2 (.int .i64 (hh))) 3 (.int .i64 (l)))
        exact ⟨_, _, _, _, _, _, rfl, by omega, by omega, by omega, by omega, by omega, by omega, by omega, OO, RR.mono (by omega), GG⟩
end Go.Proofs.YtkmampichfbppaaDoor
