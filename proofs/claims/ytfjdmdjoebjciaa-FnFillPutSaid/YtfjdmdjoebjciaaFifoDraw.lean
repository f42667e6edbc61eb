/- Queues: the draws. -/
import Derived.Test.YtfjdmdjoebjciaaFS
import Derived.Test.YtfjdmdjoebjciaaFifo
namespace Go.Proofs.Ytfjdmdjoebjciaa
open Go.RowKit

set_option maxHeartbeats 2000000 in
theorem l91Fifo_any (rb m : Nat) (w : World) (h : Rd w rb m) (hm : m ≤ 1000) :
    Calls Try.prog 46 #[.pointer (some ⟨rb, 0, none⟩)] w fun e w' => ∃ (r : Int) (a : Option Addr) (xs : List Int) (c : Nat), e = .returned (.agg #[.int .i64 r, .slice a xs.length c]) ∧ xs.length ≤ 9 ∧ 0 ≤ r ∧ r ≤ 17 ∧ OwnI w' w.heap.size a c xs ∧ Rd w' rb (m + 20) ∧ w.grownBy w' (some rb) := by
  have hrb := h.lt
  go_enter Try.func46, Try.ntmps46
  go_wp2_with fail
  refine name_calls fun W hW => ?_
  have R0 : Rd W rb m := by rw [hW]; exact rd_alloc h _
  have G0 : w.grownBy W (some rb) := by rw [hW]; exact only_below ((Below.refl _ _).alloc (Nat.le_refl _) _) _
  have H0 : W.heap[w.heap.size]? = some (.cells #[.int .i64 0, .slice none 0 0] 25 (0, 0)) := by rw [hW]; exact heap_new_at _ _ _ rfl
  clear hW h
  refine (pick_any rb _ 8 W R0 (by omega)).mono ?_
  rintro e w1 ⟨k1, rfl, k10, k11, R1, g1⟩
  have G1 := only_trans G0 g1
  have H1 := box_only H0 g1 hrb
  have z1 := box_lt H1
  clear R0 G0 H0 g1
  go_wp2_with fail
  refine name_calls fun W2 hW2 => ?_
  have F2 : FS w W2 rb (w1.heap.size + 1) (m + 1) #[.int .i64 0, .slice none 0 0] #[.int .i64 (1 + k1), .slice (some ⟨w1.heap.size, 0, none⟩) 0 0] 25 3 1 (some ⟨w1.heap.size, 0, none⟩) 0 0 [] := by
    rw [hW2]
    exact { rl := hrb, bl := by omega, ne := by decide, R := rd_alloc (rd_alloc R1 _) _, G := only_alloc (only_alloc G1 _) _, H0 := box_alloc (box_alloc H1 _) _, H := heap_new_at _ _ _ (by simp), o := World.ownsRow.alloc (own_made_at w1 #[] _ _ 0 _ _ rfl (by omega) (by simp) rfl) _ }
  clear hW2 R1 G1 H1
  refine (pick_any rb _ (1 + k1 + 1) W2 F2.R (by omega)).mono ?_
  rintro e w3 ⟨k2, rfl, k20, k21, R3, g3⟩
  have F3 := F2.pick R3 g3
  obtain ⟨n, rfl⟩ := Int.eq_ofNat_of_zero_le k20
  have hn9 : n ≤ 8 := by omega
  clear F2 R3 g3 k21
  go_wp2_with fail
  generalize w1.heap.size + 1 = b3 at *
  generalize some (⟨w1.heap.size, 0, none⟩ : Addr) = a0 at *
  go_loopw [5] (fun i wr => ∃ (k : Nat) (a : Option Addr) (c : Nat) (xs : List Int), k ≤ n ∧ i = .int .i64 k ∧ xs.length = k ∧ FS w wr rb b3 (m + 2 + k) #[.int .i64 0, .slice none 0 0] #[.int .i64 (1 + k1), .slice a xs.length c] 25 3 1 a xs.length c (xs.map (Value.int .i64))) (fun i _ => n - (intOf i).toNat)
  case atStart => exact ⟨0, a0, 0, [], Nat.zero_le _, rfl, rfl, F3⟩
  case round =>
    obtain ⟨k, a, c, xs, hk, rfl, hx, F⟩ := hrel
    by_cases hlt : k < n
    · have F' := F.drew
      obtain ⟨c0, c1⟩ := cells2 F.H
      have hbl := F.blt
      have hxl : xs.length ≤ 8 := by omega
      have HX := Lib.hid hx
      clear hx
      go_wp2_with fail
      go_region_law (first
        | (refine step_append_row (by rfl) _ _ _ (by rfl) (w.heap.size + 1) 3 _ 1 8 Try.underlying23 int_info rfl (by decide) a xs.length c (xs.map (Value.int .i64)) (by rfl) ?ho (some ⟨_, 0, none⟩) 1 1 [.int .i64 k4] (by rfl) ?hn rfl (by simp [Value.oneCell']) (by simp) (by simp only [maxLen]; omega) (by omega) ?hb ?_
           case ho => exact World.ownsRow.alloc F4.o _
           case hn => exact cells_new _ #[.int .i64 k4] _ rfl
           case hb => (simp; omega)
           intro a7 c7 w7 ho7 hg7
           have F7 := (F4.alloc (.cells #[.int .i64 k4] 3)).grow ho7 hg7
           obtain ⟨d0, d1, f0, f1⟩ := two_cells F7.H
           skip)
        | (go_simp
           go_at_call 47
           refine (pick_any rb _ 256 _ F'.R (by omega)).mono ?_
           rintro e w4 ⟨k4, rfl, k40, k41, R4, g4⟩
           have F4 := F'.pick R4 g4
           obtain ⟨e0, e1⟩ := cells2 F4.H
           have hbl4 := F4.blt
           have zlt4 := F4.zlt
           skip))
      all_goals
        go_wp2
        go_roundw
        case rel =>
          exact ⟨k + 1, a7, c7, xs ++ [k4], by omega, by go_num, by rw [List.length_append, HX.out]; rfl, by simpa using (F7.set 1 (.slice a7 (xs.length + 1) c7)).mono (show m + 2 + k + 1 ≤ m + 2 + (k + 1) by omega)⟩
        case measure => simp [intOf]; omega
    · have hkn : k = n := by omega
      subst hkn
      subst hx
      go_wp2_with fail
      refine (pick_any rb _ 30 wr F.R (by omega)).mono ?_
      rintro e w4 ⟨k4, rfl, k40, k41, R4, g4⟩
      replace F := F.pick R4 g4
      clear R4 g4
      have hxl : xs.length ≤ 8 := by omega
      by_cases h0 : k4 = 0
      · subst h0
        go_wp2_with fail
        refine name_calls fun WA hWA => ?_
        have rA : Ints WA (some ⟨w4.heap.size, 0, none⟩) [0, 16, 17] := by rw [hWA]; exact ints_new w4 [0, 16, 17] _ _ rfl
        have hz4 := Nat.lt_trans F.rl F.zlt
        replace F := F.alloc (.cells #[.int .i64 0, .int .i64 16, .int .i64 17] 3)
        rw [← hWA] at F
        clear hWA
        refine (pick_any rb _ 3 WA F.R (by omega)).mono ?_
        rintro e w5 ⟨k5, rfl, k50, k51, R5, g5⟩
        replace rA := cells_only rA g5 hz4
        replace F := F.pick R5 g5
        obtain ⟨j, rfl⟩ := Int.eq_ofNat_of_zero_le k50
        have hj : j < 3 := by omega
        have hjI : (j : Int) < 3 := by omega
        obtain ⟨b, off, v, hb, hv, hcv⟩ := Ints.at_ rA (k := j) hj
        injection hb with hb
        injection hb with hb1 hb2 _
        subst hb1 hb2
        rw [Nat.zero_add] at hcv
        have hv2 : 0 ≤ v ∧ v ≤ 17 := by
          have := List.mem_of_getElem? hv
          simp at this
          omega
        have hv0 := hv2.1
        have hv1 := hv2.2
        clear hv hv2 rA k51 R5 g5
        obtain ⟨c0, c1, f0, f1⟩ := two_cells F.H
        obtain ⟨d0, d1, e0, e1⟩ := two_cells F.H0
        have hne := F.bl
        go_wp2
        refine bodyPost_ret (v := .agg #[.int .i64 v, .slice a xs.length c]) (by simp [results, Try.results46, go_sem, *]) rfl ?_
        obtain ⟨RR, GG, OO⟩ := FS.fin (F.set 0 (.int .i64 v)) (only_setR (only_setR (only_refl _ _) 0 (.int .i64 v)) 1 (.slice a xs.length c))
        exact ⟨_, _, _, _, rfl, by omega, by omega, by omega, OO, RR.mono (by omega), GG⟩
      have hb0 : (k4 == 0) = false := by simpa using h0
      by_cases h1 : k4 = 1
      · subst h1
        have F' := F.drew
        obtain ⟨c0, c1⟩ := cells2 F.H
        have hbl := F.blt
        have zlt0 := F.zlt
        have hne := F.bl
        have hrl := F.rl
        have hz4 := Nat.lt_trans F.rl F.zlt
        have hnb : w4.heap.size ≠ b3 := by omega
        clear h0 hb0
        go_wp2_with fail
        go_region_law (first
          | (refine step_append_row (by rfl) _ _ _ (by rfl) (w.heap.size + 1) 3 _ 1 8 Try.underlying23 int_info rfl (by decide) a xs.length c (xs.map (Value.int .i64)) (by rfl) ?ho (some ⟨_, 0, none⟩) 1 1 [.int .i64 v] (by rfl) ?hn rfl (by simp [Value.oneCell']) (by simp) (by simp only [maxLen]; omega) (by omega) ?hb ?_
             case ho => first | exact World.ownsRow.alloc F5.o _ | exact World.ownsRow.alloc (World.ownsRow.alloc F5.o _) _
             case hn => exact cells_new _ #[.int .i64 v] _ (by simp)
             case hb => (simp; omega)
             intro a7 c7 w7 ho7 hg7
             first
               | have F7 := (F5.alloc _).grow ho7 hg7
               | have F7 := ((F5.alloc _).alloc _).grow ho7 hg7
             obtain ⟨d0, d1, f0, f1⟩ := two_cells F7.H
             obtain ⟨d2, d3, f2, f3⟩ := two_cells F7.H0
             have hb7 := F7.blt
             skip)
          | (go_simp
             go_at_call 47
             first
               | (refine (pick_any rb _ 3 _ F'.R (by omega)).mono ?_
                  rintro e w5 ⟨k5, rfl, k50, k51, R5, g5⟩
                  have F5 := F'.pick R5 g5
                  have HV := (show ∃ v, ∃ j : Nat, ∃ hj3 : j < 3, k5 = (j : Int) ∧ [Value.int .i64 (-1), Value.int .i64 5, Value.int .i64 256][j]'hj3 = .int .i64 v by
                    obtain ⟨j, rfl⟩ := Int.eq_ofNat_of_zero_le k50
                    have hj : j < 3 := by omega
                    rcases (by omega : j = 0 ∨ j = 1 ∨ j = 2) with rfl | rfl | rfl
                    · exact ⟨_, 0, by omega, rfl, rfl⟩
                    · exact ⟨_, 1, by omega, rfl, rfl⟩
                    · exact ⟨_, 2, by omega, rfl, rfl⟩)
                  obtain ⟨v, j, hj, rfl, hv⟩ := HV)
               | (refine (pick_any rb _ 3 _ (F'.alloc _).R (by omega)).mono ?_
                  rintro e w5 ⟨k5, rfl, k50, k51, R5, g5⟩
                  have F5 := (F'.alloc _).pick R5 g5
                  have rA := cells_only (ints_new w4.drew [-1, 5, 256] #[.int .i64 (-1), .int .i64 5, .int .i64 256] 3 rfl) g5 hz4
                  have HV := (show ∃ v, ∃ j : Nat, k5 = (j : Int) ∧ j < 3 ∧ w5.cell? ⟨w4.heap.size, j, none⟩ = some (.int .i64 v) by
                    obtain ⟨j, rfl⟩ := Int.eq_ofNat_of_zero_le k50
                    obtain ⟨b, off, v, hb, hv, hcv⟩ := Ints.at_ rA (k := j) (show j < 3 by omega)
                    injection hb with hb
                    injection hb with hb1 hb2 _
                    subst hb1 hb2
                    rw [Nat.zero_add] at hcv
                    exact ⟨v, j, rfl, by omega, hcv⟩)
                  obtain ⟨v, j, rfl, hj, hv⟩ := HV)
             have hjI : (j : Int) < 3 := by omega
             obtain ⟨e0, e1⟩ := cells2 F5.H
             have hbl5 := F5.blt
             have zlt5 := F5.zlt
             clear k51
             skip))
        all_goals
          go_wp2
          refine bodyPost_ret (v := .agg #[.int .i64 (1 + k1), .slice a7 (xs.length + 1) c7]) (by simp [results, Try.results46, go_sem, *]) rfl ?_
          obtain ⟨RR, GG, OO⟩ := FS.fin (F7.set 1 (.slice a7 (xs.length + 1) c7)) (only_setR (only_setR (only_refl _ _) 0 (.int .i64 (1 + k1))) 1 (.slice a7 (xs.length + 1) c7))
          exact ⟨1 + k1, a7, xs ++ [v], c7, by rw [List.length_append]; rfl, by rw [List.length_append]; simp; omega, by omega, by omega, OwnI.snoc OO, RR.mono (by omega), GG⟩
      · have hb1 : (k4 == 1) = false := by simpa using h1
        clear h0 h1
        obtain ⟨c0, c1, f0, f1⟩ := two_cells F.H
        obtain ⟨d0, d1, e0, e1⟩ := two_cells F.H0
        have hne := F.bl
        go_wp2
        refine bodyPost_ret (v := .agg #[.int .i64 (1 + k1), .slice a xs.length c]) (by simp [results, Try.results46, go_sem, *]) rfl ?_
        obtain ⟨RR, GG, OO⟩ := FS.fin (F) (only_setR (only_setR (only_refl _ _) 0 (.int .i64 (1 + k1))) 1 (.slice a xs.length c))
        exact ⟨_, _, _, _, rfl, by omega, by omega, by omega, OO, RR.mono (by omega), GG⟩
set_option maxHeartbeats 2000000 in
theorem drawFifoPut_any (ao : Option Addr) (bs : List Int) (c : Nat) (w : World) (h : Bytes w ao bs) (hc : bs.length ≤ c) (lx : bs.length ≤ 1048576) :
    Calls Try.prog 13 #[.slice ao bs.length c] w fun e w' => ∃ (r : Int) (a : Option Addr) (xs : List Int) (c : Nat) (b : Int), e = .returned (.tuple #[.agg #[.int .i64 r, .slice a xs.length c], .int .i64 b]) ∧ xs.length ≤ 9 ∧ 0 ≤ r ∧ r ≤ 17 ∧ -1 ≤ b ∧ b ≤ 256 ∧ OwnI w' w.heap.size a c xs ∧ Below w.heap.size w w' := by
  go_enter Try.func13, Try.ntmps13
  go_wp2_with fail
  refine name_calls fun W hW => ?_
  have BW : Below w.heap.size w W := by rw [hW]; exact (Below.refl _ _).alloc (Nat.le_refl _) _
  have H0 : W.heap[w.heap.size]? = some (.cells #[.int .i64 0, .slice none 0 0] 25 (0, 0)) := by rw [hW]; exact heap_new_at _ _ _ rfl
  have zW : W.heap.size = w.heap.size + 1 := by rw [hW]; simp
  clear hW
  refine (l6Open_any ao bs c W (h.below BW) hc (by omega)).mono ?_
  rintro e w1 ⟨rb, rfl, hrb, R1, b1⟩
  have H1 := (b1.block _ (box_lt H0)).trans H0
  have B1 := BW.trans (b1.mono BW.size)
  have z1 := b1.size
  clear H0 BW b1 h
  go_wp2_with fail
  refine (l91Fifo_any rb 0 w1 R1 (by omega)).mono ?_
  rintro e w2 ⟨r, a, xs, c2, rfl, lx2, r0, r1, o2, R2, g2⟩
  go_wp2_with fail
  refine name_calls fun W3 hW3 => ?_
  have z2 := g2.size
  have hl1 := R1.lt
  have D0 : DS w (w2.alloc (.cells #[.int .i64 r, .slice a xs.length c2] 25)) rb w2.heap.size 20 #[.int .i64 0, .slice none 0 0] #[.int .i64 r, .slice a xs.length c2] 25 3 1 a xs.length c2 (xs.map (Value.int .i64)) :=
    { zr := by omega, rl := by omega, ne := by decide, nr := by decide, R := rd_alloc R2 _, B := (below_only B1 g2 (by omega)).alloc (by omega) _, H0 := box_alloc (box_only' H1 g2 (by omega)) _, H := heap_new_at _ _ _ rfl, o := World.ownsRow.alloc (own_base o2 (by omega)) _ }
  have D : DS w W3 rb w2.heap.size 20 #[.int .i64 0, .slice none 0 0] #[.int .i64 r, .slice a xs.length c2] 25 3 1 a xs.length c2 (xs.map (Value.int .i64)) := by
    rw [hW3]
    first | exact D0 | exact D0.alloc _
  have ina : Hid (∀ q, a = some q → q.block < w2.heap.size) := Lib.hid (fun q hq => (own_in o2 q hq).2)
  clear D0
  skip
  clear hW3 R1 H1 B1 o2 R2 g2
  refine (pick_any rb _ 20 _ D.R (by omega)).mono ?_
  rintro e w3 ⟨k3, rfl, k30, k31, R', g'⟩
  replace D := D.pick R' g'
  clear R' g'
  have HD := Lib.hid D
  obtain ⟨c0, c1⟩ := cells2 D.H
  obtain ⟨d0, d1, f0, f1⟩ := two_cells D.H0
  have hbl := D.blt
  have zlt := D.zlt
  have hbz : w2.heap.size ≠ w.heap.size := by have := D.zr; have := D.rl; omega
  have hbz2 := Ne.symm hbz
  clear D
  by_cases h0 : k3 = 0
  · subst h0
    go_wp2_with fail
    go_region_law (first
        | (go_simp
           go_at_call 47
           first
             | (refine (pick_any rb _ 2 _ HD.out.drew.R (by omega)).mono ?_
                rintro e w5 ⟨k5, rfl, k50, k51, R5, g5⟩
                have D5 := HD.out.drew.pick R5 g5
                have HV := (show ∃ v, ∃ j : Nat, ∃ hj3 : j < 2, k5 = (j : Int) ∧ [Value.int .i64 (-1), Value.int .i64 256][j]'hj3 = .int .i64 v ∧ -1 ≤ v ∧ v ≤ 256 by
                  obtain ⟨j, rfl⟩ := Int.eq_ofNat_of_zero_le k50
                  rcases (by omega : j = 0 ∨ j = 1) with rfl | rfl
                  · exact ⟨-1, 0, by omega, rfl, rfl, by omega, by omega⟩
                  · exact ⟨256, 1, by omega, rfl, rfl, by omega, by omega⟩)
                obtain ⟨v, j, hj, rfl, hv, v0, v1⟩ := HV)
             | (refine (pick_any rb _ 2 _ (HD.out.drew.alloc _).R (by omega)).mono ?_
                rintro e w5 ⟨k5, rfl, k50, k51, R5, g5⟩
                have D5 := (HD.out.drew.alloc _).pick R5 g5
                have rA := cells_only (ints_new w3.drew [-1, 256] #[.int .i64 (-1), .int .i64 256] 3 rfl) g5 (Nat.lt_trans HD.out.rl HD.out.blt)
                have HV := (show ∃ v, ∃ j : Nat, k5 = (j : Int) ∧ j < 2 ∧ w5.cell? ⟨w3.heap.size, j, none⟩ = some (.int .i64 v) ∧ -1 ≤ v ∧ v ≤ 256 by
                  obtain ⟨j, rfl⟩ := Int.eq_ofNat_of_zero_le k50
                  obtain ⟨b, off, v, hb, hv, hcv⟩ := Ints.at_ rA (k := j) (show j < 2 by omega)
                  injection hb with hb
                  injection hb with hb1 hb2 _
                  subst hb1 hb2
                  rw [Nat.zero_add] at hcv
                  have hm := List.mem_of_getElem? hv
                  simp at hm
                  exact ⟨v, j, rfl, by omega, hcv, by omega, by omega⟩)
                obtain ⟨v, j, rfl, hj, hv, v0, v1⟩ := HV)
           have hjI : (j : Int) < 2 := by omega
           obtain ⟨e0, e1⟩ := cells2 D5.H
           obtain ⟨d0', d1', f0', f1'⟩ := two_cells D5.H0
           have hbl5 := D5.blt
           have zlt5 := D5.zlt
           clear k51
           skip))
    all_goals
      go_wp2
      refine bodyPost_ret (v := .tuple #[.agg #[.int .i64 r, .slice a xs.length c2], .int .i64 v]) (by simp [results, Try.results13, go_sem, *]) rfl ?_
      exact ⟨r, a, xs, c2, v, rfl, lx2, r0, r1, v0, v1, And.symm (DS.fin D5 (by repeat (first | exact only_refl _ _ | refine only_setR ?_ _ _ | refine only_alloc ?_ _ | refine only_drew ?_)))⟩
  · have hb0 : (k3 == 0) = false := by simpa using h0
    clear h0
    go_wp2_with fail
    go_region_held3 (fun v => v.cell? ⟨w2.heap.size, 0, none⟩ = some (.int .i64 r) ∧ v.cell? ⟨w2.heap.size, 1, none⟩ = some (.slice a xs.length c2))
      (go_keep)
      (first
        | (go_at_call 47
           refine (pick_any rb _ 256 _ HD.out.drew.R (by omega)).mono ?_
           rintro e w5 ⟨v, rfl, v0, v1, R5, g5⟩
           have D5 := HD.out.drew.pick R5 g5
           obtain ⟨e0, e1⟩ := cells2 D5.H
           obtain ⟨d0', d1', f0', f1'⟩ := two_cells D5.H0))
    all_goals
      go_wp2
      refine bodyPost_ret (v := .tuple #[.agg #[.int .i64 r, .slice a xs.length c2], .int .i64 v]) (by simp [results, Try.results13, go_sem, *]) rfl ?_
      exact ⟨r, a, xs, c2, v, rfl, lx2, r0, r1, by omega, by omega, And.symm (DS.fin D5 (by repeat (first | exact only_refl _ _ | refine only_setR ?_ _ _ | refine only_alloc ?_ _ | refine only_drew ?_)))⟩
set_option maxHeartbeats 2000000 in
theorem drawFifoFill_any (ao : Option Addr) (bs : List Int) (c : Nat) (w : World) (h : Bytes w ao bs) (hc : bs.length ≤ c) (lx : bs.length ≤ 1048576) :
    Calls Try.prog 20 #[.slice ao bs.length c] w fun e w' => ∃ (r : Int) (a : Option Addr) (xs : List Int) (c : Nat) (b : Option Addr) (ys : List Int) (d : Nat), e = .returned (.tuple #[.agg #[.int .i64 r, .slice a xs.length c], .slice b ys.length d]) ∧ xs.length ≤ 9 ∧ 0 ≤ r ∧ r ≤ 17 ∧ ys.length ≤ 41 ∧ OwnI w' w.heap.size a c xs ∧ OwnI w' w.heap.size b d ys ∧ Below w.heap.size w w' := by
  go_enter Try.func20, Try.ntmps20
  go_wp2_with fail
  refine name_calls fun W hW => ?_
  have BW : Below w.heap.size w W := by rw [hW]; exact (Below.refl _ _).alloc (Nat.le_refl _) _
  have H0 : W.heap[w.heap.size]? = some (.cells #[.int .i64 0, .slice none 0 0] 25 (0, 0)) := by rw [hW]; exact heap_new_at _ _ _ rfl
  have zW : W.heap.size = w.heap.size + 1 := by rw [hW]; simp
  clear hW
  refine (l6Open_any ao bs c W (h.below BW) hc (by omega)).mono ?_
  rintro e w1 ⟨rb, rfl, hrb, R1, b1⟩
  have H1 := (b1.block _ (box_lt H0)).trans H0
  have B1 := BW.trans (b1.mono BW.size)
  have z1 := b1.size
  clear H0 BW b1 h
  go_wp2_with fail
  refine (l91Fifo_any rb 0 w1 R1 (by omega)).mono ?_
  rintro e w2 ⟨r, a, xs, c2, rfl, lx2, r0, r1, o2, R2, g2⟩
  go_wp2_with fail
  refine name_calls fun W3 hW3 => ?_
  have z2 := g2.size
  have hl1 := R1.lt
  have D0 : DS w (w2.alloc (.cells #[.int .i64 r, .slice a xs.length c2] 25)) rb w2.heap.size 20 #[.int .i64 0, .slice none 0 0] #[.int .i64 r, .slice a xs.length c2] 25 3 1 a xs.length c2 (xs.map (Value.int .i64)) :=
    { zr := by omega, rl := by omega, ne := by decide, nr := by decide, R := rd_alloc R2 _, B := (below_only B1 g2 (by omega)).alloc (by omega) _, H0 := box_alloc (box_only' H1 g2 (by omega)) _, H := heap_new_at _ _ _ rfl, o := World.ownsRow.alloc (own_base o2 (by omega)) _ }
  have D : DS w W3 rb w2.heap.size 20 #[.int .i64 0, .slice none 0 0] #[.int .i64 r, .slice a xs.length c2] 25 3 1 a xs.length c2 (xs.map (Value.int .i64)) := by
    rw [hW3]
    first | exact D0 | exact D0.alloc _
  have ina : Hid (∀ q, a = some q → q.block < w2.heap.size) := Lib.hid (fun q hq => (own_in o2 q hq).2)
  clear D0
  have o : OwnI W3 (w2.heap.size + 1) (some ⟨w2.heap.size + 1, 0, none⟩) 0 [] := by rw [hW3]; exact own_made_at _ #[] _ _ 0 _ _ (by simp) (by simp) (by simp) rfl
  clear hW3 R1 H1 B1 o2 R2 g2
  generalize some (⟨w2.heap.size + 1, 0, none⟩ : Addr) = a0 at *
  generalize w2.heap.size = b3 at *
  go_wp2_with fail
  refine (pick_any rb _ 10 _ D.R (by omega)).mono ?_
  rintro e w3 ⟨k3, rfl, k30, k31, R', g'⟩
  replace o := own_only o g' (fun q hq => by have := (own_in o _ hq).1; have := D.rl; simp at *; omega)
  replace D := D.pick R' g'
  clear R' g'
  go_wp2_with fail
  refine (pick_any rb _ 20 _ D.R (by omega)).mono ?_
  rintro e w4 ⟨k4, rfl, k40, k41, R', g'⟩
  replace o := own_only o g' (fun q hq => by have := (own_in o _ hq).1; have := D.rl; simp at *; omega)
  replace D := D.pick R' g'
  clear R' g'
  obtain ⟨n, rfl⟩ := Int.eq_ofNat_of_zero_le k30
  have hn9 : n ≤ 9 := by omega
  clear k31 k30 z1 z2 zW hl1 hrb
  by_cases hk : k4 = 0
  case' pos =>
    subst hk
    go_wp2_with fail
    go_wp2_with fail
    refine (pick_any rb _ 2 _ D.R (by omega)).mono ?_
    rintro e w5 ⟨k5, rfl, k50, k51, R', g'⟩
    replace o := own_only o g' (fun q hq => by have := (own_in o _ hq).1; have := D.rl; simp at *; omega)
    replace D := D.pick R' g'
    clear R' g'
    obtain ⟨j, rfl⟩ := Int.eq_ofNat_of_zero_le k50
    have hj : j ≤ 1 := by omega
    clear k51 k50
    obtain ⟨n', hn'⟩ : ∃ n' : Nat, (n' : Int) = 40 + (j : Int) := ⟨40 + j, by omega⟩
    go_wp2_with fail
    rw [← hn']
    have hn41 : n' ≤ 41 := by omega
    clear hn'
    obtain ⟨wx, rfl⟩ : ∃ wx : World, wx = w5 := ⟨_, rfl⟩
    obtain ⟨nn, rfl⟩ : ∃ nn : Nat, nn = n' := ⟨_, rfl⟩
  case' neg =>
    have hkb : (k4 == 0) = false := by simpa using hk
    clear hk
    go_wp2_with fail
    clear hkb
    have hn41 : n ≤ 41 := by omega
    replace D := D.mono (show 20 + 1 + 1 ≤ 20 + 1 + 1 + 1 by omega)
    obtain ⟨wx, rfl⟩ : ∃ wx : World, wx = w4 := ⟨_, rfl⟩
    obtain ⟨nn, rfl⟩ : ∃ nn : Nat, nn = n := ⟨_, rfl⟩
  all_goals
    go_loopw [6, 8] (fun v i wr => ∃ (k : Nat) (L : List Int) (bL : Option Addr) (dL : Nat), k ≤ nn ∧ i = .int .i64 k ∧ v = .slice bL k dL ∧ L.length = k ∧ DS w wr rb b3 (23 + k) #[.int .i64 0, .slice none 0 0] #[.int .i64 r, .slice a xs.length c2] 25 3 1 a xs.length c2 (xs.map (Value.int .i64)) ∧ OwnI wr (b3 + 1) bL dL L) (fun _ i _ => nn - (intOf i).toNat)
    case atStart => exact ⟨0, [], _, 0, Nat.zero_le _, rfl, rfl, rfl, D, o⟩
    case round =>
      obtain ⟨k, L, bL, dL, hk, rfl, rfl, hL, D, o⟩ := hrel
      have HL := Lib.hid hL
      have hoL : wr.ownsRow (b3 + 1) 3 1 (.slice bL k dL) k (L.map (Value.int .i64)) := by rw [← hL]; exact o
      clear hL o
      by_cases hlt : k < nn
      · go_wp2_with fail
        refine (pick_any rb _ 256 wr D.R (by omega)).mono ?_
        rintro e w6 ⟨y, rfl, y0, y1, R6, g6⟩
        have hrl := D.rl
        have o6 := own_only hoL g6 fun q hq => by have := own_lt hoL hq; omega
        have D6 := D.pick R6 g6
        have hb6 := D6.blt
        clear hoL R6 g6 D
        go_wp2_with (
          at_builtin
          refine name_list fun W hW => ?_
          have hDW := D6.alloc (.cells #[.int .i64 y] 3)
          have hoW : W.ownsRow (b3 + 1) 3 1 (.slice bL k dL) k (L.map (Value.int .i64)) := by rw [hW]; exact o6.alloc _
          have hcW : Cells W (some ⟨w6.heap.size, 0, none⟩) [.int .i64 y] := by rw [hW]; exact cells_new _ #[.int .i64 y] _ rfl
          have zW : b3 + 1 ≤ W.heap.size := by rw [hW]; simp; omega
          rw [← hW] at hDW
          clear hW o6 D6
          refine wpList_append_row W rfl _ _ _ rfl (b3 + 1) 3 _ 1 8 Try.underlying23 int_info rfl (by decide) bL k dL _ (by rfl) hoW (some ⟨w6.heap.size, 0, none⟩) 1 1 [.int .i64 y] (by rfl) hcW rfl (by simp [Value.oneCell']) (by simp) (by simp only [maxLen]; omega) (by omega) zW ?_
          intro ao2 c3 w7 ho2 hg2
          have D7 := hDW.far ina.out hg2 (fun q hq => by have := (hoW.lt q hq).1; omega)
          clear hoW hg2 hcW hDW zW)
        go_roundw
        case rel => exact ⟨k + 1, L ++ [y], ao2, c3, by omega, by go_num, by simp, by rw [List.length_append, HL.out]; rfl, D7.mono (by omega), OwnI.snoc (by rw [HL.out]; exact ho2)⟩
        case measure => simp [intOf]; omega
      · have hkn : k = nn := by omega
        subst hkn
        have o8 : OwnI wr (b3 + 1) bL dL L := by unfold OwnI; rw [HL.out]; exact hoL
        clear hoL
        by_cases hn0 : k = 0
        · have hk0 : (k : Int) ≤ 0 := by omega
          have HN0 := Lib.hid hn0
          clear hn0
          obtain ⟨c0, c1⟩ := cells2 D.H
          obtain ⟨d0, d1, f0, f1⟩ := two_cells D.H0
          have hbl := D.blt
          have zlt := D.zlt
          have hbz : b3 ≠ w.heap.size := by have := D.zr; have := D.rl; omega
          have hbz2 := Ne.symm hbz
          go_wp2
          refine bodyPost_ret (v := .tuple #[.agg #[.int .i64 r, .slice a xs.length c2], .slice (bL) k dL]) (by simp [results, Try.results20, go_sem, *]) rfl ?_
          refine ⟨r, a, xs, c2, (bL), L, dL, by rw [HL.out], lx2, r0, r1, by rw [HL.out]; omega, ?_⟩
          exact DS.fin2 D (o8) (by repeat (first | exact only_refl _ _ | refine only_setR ?_ _ _ | refine only_alloc ?_ _ | refine only_drew ?_))
        have hkp : (0 : Int) < (k : Int) := by omega
        clear hn0
        go_wp2_with fail
        refine (pick_any rb _ 20 wr D.R (by omega)).mono ?_
        rintro e w9 ⟨k9, rfl, k90, k91, R', g'⟩
        replace o8 := own_only o8 g' (fun q hq => by have := (own_in o8 _ hq).1; have := D.rl; simp at *; omega)
        replace D := D.pick R' g'
        clear R' g'
        by_cases h9 : k9 = 0
        · subst h9
          go_wp2_with fail
          refine (pick_any rb _ (k : Int) w9 D.R (by omega)).mono ?_
          rintro e w10 ⟨k10, rfl, k100, k101, R', g'⟩
          replace o8 := own_only o8 g' (fun q hq => by have := (own_in o8 _ hq).1; have := D.rl; simp at *; omega)
          replace D := D.pick R' g'
          clear R' g'
          obtain ⟨j, rfl⟩ := Int.eq_ofNat_of_zero_le k100
          have hj : j < k := by omega
          have hjI : (j : Int) < (k : Int) := by omega
          have hjL : j < L.length := by rw [HL.out]; exact hj
          clear k101 k100
          obtain ⟨gg, u, rfl, hgb, hgs, hcu, hfu, o9⟩ := OwnI.put o8 hjL 256
          have D9 := D.far ina.out (grown_set w10 ⟨gg, j, none⟩ (.int .i64 256)) (fun q hq => by injection hq with hq; simp at hq; omega)
          have O9 := Lib.hid o9
          have HLs : Hid ((L.set j 256).length = k) := Lib.hid (by rw [List.length_set]; exact HL.out)
          have HO8 := Lib.hid o8
          have hgne : gg ≠ b3 := by omega
          have hgne2 : gg ≠ w.heap.size := by have := D.zr; have := D.rl; omega
          clear o8 o9 HL
          have HL := HLs
          obtain ⟨c0, c1⟩ := cells2 D.H
          obtain ⟨d0, d1, f0, f1⟩ := two_cells D.H0
          have hbl := D.blt
          have zlt := D.zlt
          have hbz : b3 ≠ w.heap.size := by have := D.zr; have := D.rl; omega
          have hbz2 := Ne.symm hbz
          clear D
          have D := D9
          go_wp2
          refine bodyPost_ret (v := .tuple #[.agg #[.int .i64 r, .slice a xs.length c2], .slice (some ⟨gg, 0, none⟩) k dL]) (by simp [results, Try.results20, go_sem, *]) rfl ?_
          refine ⟨r, a, xs, c2, (some ⟨gg, 0, none⟩), (L.set j 256), dL, by rw [HL.out], lx2, r0, r1, by rw [HL.out]; omega, ?_⟩
          exact DS.fin2 D (O9.out) (by repeat (first | exact only_refl _ _ | refine only_setR ?_ _ _ | refine only_alloc ?_ _ | refine only_drew ?_))
        · have hb9 : (k9 == 0) = false := by simpa using h9
          clear h9
          obtain ⟨c0, c1⟩ := cells2 D.H
          obtain ⟨d0, d1, f0, f1⟩ := two_cells D.H0
          have hbl := D.blt
          have zlt := D.zlt
          have hbz : b3 ≠ w.heap.size := by have := D.zr; have := D.rl; omega
          have hbz2 := Ne.symm hbz
          go_wp2
          refine bodyPost_ret (v := .tuple #[.agg #[.int .i64 r, .slice a xs.length c2], .slice (bL) k dL]) (by simp [results, Try.results20, go_sem, *]) rfl ?_
          refine ⟨r, a, xs, c2, (bL), L, dL, by rw [HL.out], lx2, r0, r1, by rw [HL.out]; omega, ?_⟩
          exact DS.fin2 D (o8) (by repeat (first | exact only_refl _ _ | refine only_setR ?_ _ _ | refine only_alloc ?_ _ | refine only_drew ?_))
end Go.Proofs.Ytfjdmdjoebjciaa
