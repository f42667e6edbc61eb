/- Receivers: a receiver is drawn. -/
import Derived.Test.YtkmampichfbppaaDoorRecvDraw
import Derived.Test.YtkmampichfbppaaDoorRecv2
namespace Go.Proofs.YtkmampichfbppaaDoor
open Go.RowKit

set_option maxHeartbeats 8000000 in
set_option maxRecDepth 100000 in
theorem l91Recv_any (rb m : Nat) (w : World) (h : Rd w rb m) (hm : m ≤ 900) :
    Calls Tryd.prog 32 #[.pointer (some ⟨rb, 0, none⟩)] w fun e w' => ∃ (r t : Int) (a : Option Addr) (xs : List Gt) (c : Nat) (l : Bool) (ag : Int), e = .returned (.agg #[.int .i64 r, .int .i64 t, .slice a xs.length c, .bool l, .int .i64 ag]) ∧ xs.length ≤ 6 ∧ OwnG w' w.heap.size a c xs ∧ Rd w' rb (m + 40) ∧ w.grownBy w' (some rb) := by
  have hrb := h.lt
  go_enter Tryd.func32, Tryd.ntmps32
  go_wp2_with fail
  refine name_calls fun W hW => ?_
  have R : Rd W rb m := by rw [hW]; exact rd_alloc h _
  have G : w.grownBy W (some rb) := by rw [hW]; exact only_below ((Below.refl _ _).alloc (Nat.le_refl _) _) _
  have H0 : W.heap[w.heap.size]? = some (.cells #[.int .i64 0, .int .i64 0, .slice none 0 0, .bool false, .int .i64 0] 27 (0, 0)) := by rw [hW]; exact heap_new_at _ _ _ rfl
  clear hW h
  refine (pick_any rb _ (6) _ R (by omega)).mono ?_
  rintro e w1 ⟨k1, rfl, k10, k11, R', g'⟩
  replace R := R'
  replace G := only_trans G g'
  replace H0 := box_only H0 g' hrb
  clear R' g'
  have z1 := box_lt H0
  go_wp2_with fail
  refine name_calls fun W2 hW2 => ?_
  have o : W2.ownsRow (w.heap.size + 1) 82 2 (.slice (some ⟨w1.heap.size, 0, none⟩) 0 0) 0 [] := by rw [hW2]; exact own_made_at w1 #[] _ _ 0 _ _ rfl (by omega) (by simp) rfl
  replace R : Rd W2 rb (m + 1) := by rw [hW2]; exact rd_alloc R _
  replace G : w.grownBy W2 (some rb) := by rw [hW2]; exact only_alloc G _
  replace H0 : W2.heap[w.heap.size]? = some (.cells #[.int .i64 0, .int .i64 0, .slice none 0 0, .bool false, .int .i64 0] 27 (0, 0)) := by rw [hW2]; exact box_alloc H0 _
  clear hW2
  generalize some (⟨w1.heap.size, 0, none⟩ : Addr) = a0 at *
  refine (pick_any rb _ (4) _ R (by omega)).mono ?_
  rintro e w3 ⟨k2, rfl, k20, k21, R', g'⟩
  replace R := R'
  replace G := only_trans G g'
  replace H0 := box_only H0 g' hrb
  replace o := own_only o g' (fun q hq => by have := (own_in o _ hq).1; simp at this; omega)
  clear R' g'
  go_wp2_with fail
  refine (pick_any rb _ (8) _ R (by omega)).mono ?_
  rintro e w4 ⟨k3, rfl, k30, k31, R', g'⟩
  replace R := R'
  replace G := only_trans G g'
  replace H0 := box_only H0 g' hrb
  replace o := own_only o g' (fun q hq => by have := (own_in o _ hq).1; simp at this; omega)
  clear R' g'
  go_wp2_with fail
  refine name_calls fun W5 hW5 => ?_
  have z4 := box_lt H0
  have F : FS w W5 rb w4.heap.size (m + 1 + 1 + 1) #[.int .i64 0, .int .i64 0, .slice none 0 0, .bool false, .int .i64 0] #[.int .i64 (1 + k1), .int .i64 0, .slice a0 0 0, .bool (k2 == 0), .int .i64 k3] 27 82 2 a0 0 0 [] := by
    rw [hW5]
    exact { rl := hrb, bl := by omega, ne := by decide, R := rd_alloc R _, G := only_alloc G _, H0 := box_alloc H0 _, H := heap_new_at _ _ _ rfl, o := World.ownsRow.alloc o _ }
  clear hW5 R G H0 o
  generalize w4.heap.size = b3 at *
  refine (pick_any rb _ (1 + k1) _ F.R (by omega)).mono ?_
  rintro e w5 ⟨k4, rfl, k40, k41, R', g'⟩
  replace F := F.pick R' g'
  clear R' g'
  obtain ⟨c0, c1, c2, c3, c4, f0, f1, f2, f3, f4⟩ := five_cells F.H
  obtain ⟨d0, d1, d2, d3, d4, e0, e1, e2, e3, e4⟩ := five_cells F.H0
  have hne := F.bl
  have hne2 : b3 ≠ w.heap.size := by omega
  go_wp2_with fail
  refine name_calls fun W6 hW6 => ?_
  replace F := F.set 1 (.int .i64 (1 + k4))
  rw [← hW6] at F
  clear hW6 c0 c1 c2 c3 c4 f0 f1 f2 f3 f4 d0 d1 d2 d3 d4 e0 e1 e2 e3 e4 hne hne2
  refine (pick_any rb _ (1 + k1 + 1) _ F.R (by omega)).mono ?_
  rintro e w6 ⟨k5, rfl, k50, k51, R', g'⟩
  replace F := F.pick R' g'
  clear R' g'
  obtain ⟨n, rfl⟩ := Int.eq_ofNat_of_zero_le k50
  have hn6 : n ≤ 6 := by omega
  clear k51
  go_wp2_with fail
  go_loopw [5] (fun i wr => ∃ (k : Nat) (a : Option Addr) (c : Nat) (xs : List Gt), k ≤ n ∧ i = .int .i64 k ∧ xs.length = k ∧ FS w wr rb b3 (m + 5 + 4 * k) #[.int .i64 0, .int .i64 0, .slice none 0 0, .bool false, .int .i64 0] #[.int .i64 (1 + k1), .int .i64 (1 + k4), .slice a xs.length c, .bool (k2 == 0), .int .i64 k3] 27 82 2 a xs.length c (xs.flatMap gtCells)) (fun i _ => n - (intOf i).toNat)
  case atStart => exact ⟨0, a0, 0, [], Nat.zero_le _, rfl, rfl, F⟩
  case round =>
    obtain ⟨k, a, c, xs, hk, rfl, hx, F⟩ := hrel
    by_cases hlt : k < n
    · have F' := F.drew
      obtain ⟨c0, c1, c2, c3, c4⟩ := cells5 F.H
      have hbl := F.blt
      have hxl : xs.length ≤ 6 := by omega
      have HX := Lib.hid hx
      clear hx
      go_wp2_with fail
      go_region_law (first
        | (refine step_append_row (by rfl) _ _ _ (by rfl) (w.heap.size + 1) 82 _ 2 16 Tryd.underlying25 gt_info rfl (by decide) a xs.length c (xs.flatMap gtCells) (by rfl) ?ho (some ⟨_, 0, none⟩) 1 1 [.int .i64 gb, .int .i64 gc] (by rfl) ?hn rfl (by simp [Value.oneCell']) (by simp) (by simp only [maxLen]; omega) (by omega) ?hb ?_
           case ho => exact World.ownsRow.alloc F4.o _
           case hn => exact cells_new _ #[.int .i64 gb, .int .i64 gc] _ rfl
           case hb => (simp; omega)
           intro a7 c7 w7 ho7 hg7
           have F7 := (F4.alloc (.cells #[.int .i64 gb, .int .i64 gc] 82)).grow ho7 hg7
           obtain ⟨d0, d1, d2, d3, d4, f0, f1, f2, f3, f4⟩ := five_cells F7.H
           skip)
        | (go_simp
           go_at_call 49
           refine (l91Got_any rb _ _ F'.R (by omega)).mono ?_
           rintro e w4 ⟨gb, gc, rfl, R4, g4⟩
           have F4 := F'.pick R4 g4
           obtain ⟨e0, e1, e2, e3, e4⟩ := cells5 F4.H
           have hbl4 := F4.blt
           have zlt4 := F4.zlt
           skip))
      all_goals
        go_wp2
        go_roundw
        case rel =>
          exact ⟨k + 1, a7, c7, xs ++ [⟨gb, gc⟩], by omega, by go_num, by rw [List.length_append, HX.out]; rfl, by simpa [gtCells] using (F7.set 2 (.slice a7 (xs.length + 1) c7)).mono (show m + 5 + 4 * k + 4 ≤ m + 5 + 4 * (k + 1) by omega)⟩
        case measure => simp [intOf]; omega
    · have hkn : k = n := by omega
      subst hkn
      subst hx
      have hxl : xs.length ≤ 6 := by omega
      clear hlt hk
      go_wp2_with fail
      refine (pick_any rb _ (30) _ F.R (by omega)).mono ?_
      rintro e w9 ⟨k9, rfl, k90, k91, R', g'⟩
      replace F := F.pick R' g'
      clear R' g'
      by_cases h0 : k9 = 0
      · subst h0
        have HF := Lib.hid F
        obtain ⟨c0, c1, c2, c3, c4⟩ := cells5 F.H
        have hbl := F.blt
        have zlt := F.zlt
        have hrl := F.rl
        have hz4 := Nat.lt_trans F.rl F.zlt
        have hne := F.bl
        have hne2 : b3 ≠ w.heap.size := by omega
        have hnb : w9.heap.size ≠ b3 := by omega
        have hwr : IntKind.i64.wrap (1 + k1 + 1) = 1 + k1 + 1 := IntWalk.i64_in _ (by omega)
        clear F
        go_wp2_with fail
        go_region_law (first
          | (go_simp
             go_at_call 16
             first
               | (refine (pick_any rb _ 2 _ HF.out.drew.R (by omega)).mono ?_
                  rintro e w5 ⟨k5', rfl, k50', k51', R5, g5⟩
                  have F5 := HF.out.drew.pick R5 g5
                  have HV := (show ∃ v, ∃ j : Nat, ∃ hj3 : j < 2, k5' = (j : Int) ∧ [Value.int .i64 0, Value.int .i64 (1 + k1 + 1)][j]'hj3 = .int .i64 v by
                    obtain ⟨j, rfl⟩ := Int.eq_ofNat_of_zero_le k50'
                    rcases (by omega : j = 0 ∨ j = 1) with rfl | rfl
                    · exact ⟨_, 0, by omega, rfl, rfl⟩
                    · exact ⟨_, 1, by omega, rfl, rfl⟩)
                  obtain ⟨v, j, hj, rfl, hv⟩ := HV)
               | (refine (pick_any rb _ 2 _ (HF.out.drew.alloc _).R (by omega)).mono ?_
                  rintro e w5 ⟨k5', rfl, k50', k51', R5, g5⟩
                  have F5 := (HF.out.drew.alloc _).pick R5 g5
                  have rA := cells_only (ints_new w9.drew [0, 1 + k1 + 1] #[.int .i64 0, .int .i64 (1 + k1 + 1)] 3 rfl) g5 hz4
                  have HV := (show ∃ v, ∃ j : Nat, k5' = (j : Int) ∧ j < 2 ∧ w5.cell? ⟨w9.heap.size, j, none⟩ = some (.int .i64 v) by
                    obtain ⟨j, rfl⟩ := Int.eq_ofNat_of_zero_le k50'
                    obtain ⟨b, off, v, hb, hv, hcv⟩ := Ints.at_ rA (k := j) (show j < 2 by omega)
                    injection hb with hb
                    injection hb with hb1 hb2 _
                    subst hb1 hb2
                    rw [Nat.zero_add] at hcv
                    exact ⟨v, j, rfl, by omega, hcv⟩)
                  obtain ⟨v, j, rfl, hj, hv⟩ := HV)
             have hjI : (j : Int) < 2 := by omega
             obtain ⟨e0, e1, e2, e3, e4, e5, e6, e7, e8, e9⟩ := five_cells F5.H
             obtain ⟨d0', d1', d2', d3', d4', f0', f1', f2', f3', f4'⟩ := five_cells F5.H0
             have hbl5 := F5.blt
             have zlt5 := F5.zlt
             clear k51'
             skip))
        all_goals
          go_wp2
          refine bodyPost_ret (v := .agg #[.int .i64 (1 + k1), .int .i64 v, .slice a xs.length c, .bool (k2 == 0), .int .i64 k3]) (by simp [results, Tryd.results32, go_sem, *]) rfl ?_
          first
            | (obtain ⟨RR, GG, OO⟩ := FS.fin (F5.set 1 (.int .i64 v)) (only_setR (only_setR (only_setR (only_setR (only_setR (only_refl _ _) 0 (.int .i64 (1 + k1))) 1 (.int .i64 v)) 2 (.slice a xs.length c)) 3 (.bool (k2 == 0))) 4 (.int .i64 k3))
               refine ⟨_, _, _, _, _, _, _, rfl, hxl, ?o, ?r, ?g⟩
               case g => with_reducible exact GG
               case r => exact RR.mono (by omega)
               case o => exact OO)
            | (obtain ⟨RR, GG, OO⟩ := FS.fin (F5.set 1 (.int .i64 v)) (only_alloc (only_setR (only_setR (only_setR (only_setR (only_setR (only_refl _ _) 0 (.int .i64 (1 + k1))) 1 (.int .i64 v)) 2 (.slice a xs.length c)) 3 (.bool (k2 == 0))) 4 (.int .i64 k3)) (.cells #[.int .i64 0, .int .i64 (1 + k1 + 1)] 3))
               refine ⟨_, _, _, _, _, _, _, rfl, hxl, ?o, ?r, ?g⟩
               case g => with_reducible exact GG
               case r => exact RR.mono (by omega)
               case o => exact OO)
      have hb0 : (k9 == 0) = false := by simpa using h0
      by_cases h1 : k9 = 1
      · subst h1
        clear h0 hb0
        go_wp2_with fail
        refine name_calls fun WA hWA => ?_
        have rA : Ints WA (some ⟨w9.heap.size, 0, none⟩) [-1, 99, 100] := by rw [hWA]; exact ints_new w9 [-1, 99, 100] _ _ rfl
        have hz4 := Nat.lt_trans F.rl F.zlt
        replace F := F.alloc (.cells #[.int .i64 (-1), .int .i64 99, .int .i64 100] 3)
        rw [← hWA] at F
        clear hWA
        refine (pick_any rb _ 3 WA F.R (by omega)).mono ?_
        rintro e w10 ⟨k5', rfl, k50', k51', R5, g5⟩
        replace rA := cells_only rA g5 hz4
        replace F := F.pick R5 g5
        obtain ⟨j, rfl⟩ := Int.eq_ofNat_of_zero_le k50'
        have hj : j < 3 := by omega
        have hjI : (j : Int) < 3 := by omega
        obtain ⟨b, off, v, hb, hv, hcv⟩ := Ints.at_ rA (k := j) hj
        injection hb with hb
        injection hb with hb1 hb2 _
        subst hb1 hb2
        rw [Nat.zero_add] at hcv
        clear hv rA k51' R5 g5
        obtain ⟨c0, c1, c2, c3, c4, f0, f1, f2, f3, f4⟩ := five_cells F.H
        obtain ⟨d0, d1, d2, d3, d4, e0, e1, e2, e3, e4⟩ := five_cells F.H0
        have hne := F.bl
        have hne2 : b3 ≠ w.heap.size := by omega
        go_wp2
        refine bodyPost_ret (v := .agg #[.int .i64 (1 + k1), .int .i64 (1 + k4), .slice a xs.length c, .bool (k2 == 0), .int .i64 (v)]) (by simp [results, Tryd.results32, go_sem, *]) rfl ?_
        obtain ⟨RR, GG, OO⟩ := FS.fin (F.set 4 (.int .i64 v)) (only_setR (only_setR (only_setR (only_setR (only_setR (only_refl _ _) 0 (.int .i64 (1 + k1))) 1 (.int .i64 (1 + k4))) 2 (.slice a xs.length c)) 3 (.bool (k2 == 0))) 4 (.int .i64 (v)))
        exact ⟨_, _, _, _, _, _, _, rfl, hxl, OO, RR.mono (by omega), GG⟩
      have hb1 : (k9 == 1) = false := by simpa using h1
      clear h0 h1
      obtain ⟨c0, c1, c2, c3, c4, f0, f1, f2, f3, f4⟩ := five_cells F.H
      obtain ⟨d0, d1, d2, d3, d4, e0, e1, e2, e3, e4⟩ := five_cells F.H0
      have hne := F.bl
      have hne2 : b3 ≠ w.heap.size := by omega
      go_wp2
      refine bodyPost_ret (v := .agg #[.int .i64 (1 + k1), .int .i64 (1 + k4), .slice a xs.length c, .bool (k2 == 0), .int .i64 (k3)]) (by simp [results, Tryd.results32, go_sem, *]) rfl ?_
      obtain ⟨RR, GG, OO⟩ := FS.fin (F) (only_setR (only_setR (only_setR (only_setR (only_setR (only_refl _ _) 0 (.int .i64 (1 + k1))) 1 (.int .i64 (1 + k4))) 2 (.slice a xs.length c)) 3 (.bool (k2 == 0))) 4 (.int .i64 (k3)))
      exact ⟨_, _, _, _, _, _, _, rfl, hxl, OO, RR.mono (by omega), GG⟩
end Go.Proofs.YtkmampichfbppaaDoor
