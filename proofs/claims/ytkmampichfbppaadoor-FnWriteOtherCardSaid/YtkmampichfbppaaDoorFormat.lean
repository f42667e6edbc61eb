/- Formats: who is valid; a format is drawn. -/
import Derived.Test.YtkmampichfbppaaDoorFS
import Derived.Test.YtkmampichfbppaaDoorBytes
namespace Go.Proofs.YtkmampichfbppaaDoor
open Go.RowKit

def fmtB (b p s : Int) : Bool := inB b 5 8 && (inB p 0 2 && inB s 1 2)
theorem fmtB_facts {b p s : Int} (h : fmtB b p s = true) : (5 ≤ b ∧ b ≤ 8) ∧ (0 ≤ p ∧ p ≤ 2) ∧ 1 ≤ s ∧ s ≤ 2 := by
  simp [fmtB, inB] at h
  omega
theorem formatValid_any (b p s : Int) (w : World) : Calls Tryd.prog 39 #[.agg #[.int .i64 b, .int .i64 p, .int .i64 s]] w fun e w' => e = .returned (.bool (fmtB b p s)) ∧ Below w.heap.size w w' := by
  have b0 : Below w.heap.size w (w.alloc (.cells #[.int .i64 b, .int .i64 p, .int .i64 s] 24)) := (Below.refl _ _).alloc (Nat.le_refl _) _
  cases h1 : inB b 5 8
  · go_enter Tryd.func39, Tryd.ntmps39
    go_wp2_with fail
    refine (l6In_any b 5 8 _).mono ?_
    rintro e w1 ⟨rfl, rfl⟩
    go_wp2
    go_ret
    exact ⟨ret_bool (by simp [fmtB, h1]), b0⟩
  cases h2 : inB p 0 2
  · go_enter Tryd.func39, Tryd.ntmps39
    go_wp2_with fail
    refine (l6In_any b 5 8 _).mono ?_
    rintro e w1 ⟨rfl, rfl⟩
    go_wp2_with fail
    refine (l6In_any p 0 2 _).mono ?_
    rintro e w1 ⟨rfl, rfl⟩
    go_wp2
    go_ret
    exact ⟨ret_bool (by simp [fmtB, h2]), b0⟩
  · go_enter Tryd.func39, Tryd.ntmps39
    go_wp2_with fail
    refine (l6In_any b 5 8 _).mono ?_
    rintro e w1 ⟨rfl, rfl⟩
    go_wp2_with fail
    refine (l6In_any p 0 2 _).mono ?_
    rintro e w1 ⟨rfl, rfl⟩
    go_wp2_with fail
    refine (l6In_any s 1 2 _).mono ?_
    rintro e w1 ⟨rfl, rfl⟩
    go_wp2
    go_ret
    exact ⟨ret_bool (by simp [fmtB, h1, h2]), b0⟩
theorem implFormatValid_any (b p s : Int) (w : World) : Calls Tryd.prog 23 #[.agg #[.int .i64 b, .int .i64 p, .int .i64 s]] w fun e w' => e = .returned (.bool (fmtB b p s)) ∧ Below w.heap.size w w' := by
  have b0 : Below w.heap.size w (w.alloc (.cells #[.int .i64 b, .int .i64 p, .int .i64 s] 24)) := (Below.refl _ _).alloc (Nat.le_refl _) _
  by_cases h0 : 5 ≤ b
  case neg =>
    have HF : Hid (fmtB b p s = false) := Lib.hid (by simp [fmtB, inB]; omega)
    have hn : b < 5 := by omega
    have hd : decide (5 ≤ b) = false := by simpa using h0
    clear h0
    go_enter Tryd.func23, Tryd.ntmps23
    go_wp2
    all_goals
      go_ret
      exact ⟨ret_bool (HF.out).symm, b0⟩
  by_cases h1 : b ≤ 8
  case neg =>
    have HF : Hid (fmtB b p s = false) := Lib.hid (by simp [fmtB, inB]; omega)
    have hn : 8 < b := by omega
    have hd : decide (b ≤ 8) = false := by simpa using h1
    clear h1
    go_enter Tryd.func23, Tryd.ntmps23
    go_wp2
    all_goals
      go_ret
      exact ⟨ret_bool (HF.out).symm, b0⟩
  by_cases h2 : 0 ≤ p
  case neg =>
    have HF : Hid (fmtB b p s = false) := Lib.hid (by simp [fmtB, inB]; omega)
    have hn : p < 0 := by omega
    have hd : decide (0 ≤ p) = false := by simpa using h2
    clear h2
    go_enter Tryd.func23, Tryd.ntmps23
    go_wp2
    all_goals
      go_ret
      exact ⟨ret_bool (HF.out).symm, b0⟩
  by_cases h3 : p ≤ 2
  case neg =>
    have HF : Hid (fmtB b p s = false) := Lib.hid (by simp [fmtB, inB]; omega)
    have hn : 2 < p := by omega
    have hd : decide (p ≤ 2) = false := by simpa using h3
    clear h3
    go_enter Tryd.func23, Tryd.ntmps23
    go_wp2
    all_goals
      go_ret
      exact ⟨ret_bool (HF.out).symm, b0⟩
  by_cases h4 : 1 ≤ s
  case neg =>
    have HF : Hid (fmtB b p s = false) := Lib.hid (by simp [fmtB, inB]; omega)
    have hn : s < 1 := by omega
    have hd : decide (1 ≤ s) = false := by simpa using h4
    clear h4
    go_enter Tryd.func23, Tryd.ntmps23
    go_wp2
    all_goals
      go_ret
      exact ⟨ret_bool (HF.out).symm, b0⟩
  by_cases h5 : s ≤ 2
  case neg =>
    have HF : Hid (fmtB b p s = false) := Lib.hid (by simp [fmtB, inB]; omega)
    have hn : 2 < s := by omega
    have hd : decide (s ≤ 2) = false := by simpa using h5
    clear h5
    go_enter Tryd.func23, Tryd.ntmps23
    go_wp2
    all_goals
      go_ret
      exact ⟨ret_bool (HF.out).symm, b0⟩
  have HF : Hid (fmtB b p s = true) := Lib.hid (by simp [fmtB, inB]; omega)
  go_enter Tryd.func23, Tryd.ntmps23
  go_wp2
  all_goals
    go_ret
    exact ⟨ret_bool (HF.out).symm, b0⟩
set_option maxHeartbeats 4000000 in
theorem l91Format_any (rb m : Nat) (w : World) (h : Rd w rb m) (hm : m ≤ 1000) :
    Calls Tryd.prog 31 #[.pointer (some ⟨rb, 0, none⟩)] w fun e w' => ∃ (b p s : Int), e = .returned (.agg #[.int .i64 b, .int .i64 p, .int .i64 s]) ∧ -1 ≤ b ∧ b ≤ 9 ∧ Rd w' rb (m + 10) ∧ w.grownBy w' (some rb) := by
  have hrb := h.lt
  go_enter Tryd.func31, Tryd.ntmps31
  go_wp2_with fail
  refine name_calls fun W hW => ?_
  have R : Rd W rb m := by rw [hW]; exact rd_alloc h _
  have G : w.grownBy W (some rb) := by rw [hW]; exact only_below ((Below.refl _ _).alloc (Nat.le_refl _) _) _
  have H0 : W.heap[w.heap.size]? = some (.cells #[.int .i64 0, .int .i64 0, .int .i64 0] 24 (0, 0)) := by rw [hW]; exact heap_new_at _ _ _ rfl
  clear hW h
  refine (pick_any rb _ 4 W R (by omega)).mono ?_
  rintro e w1 ⟨k1, rfl, k10, k11, R', g'⟩
  replace R := R'
  replace G := only_trans G g'
  replace H0 := box_only H0 g' hrb
  clear R' g'
  go_wp2_with fail
  refine (pick_any rb _ (3) _ R (by omega)).mono ?_
  rintro e w2 ⟨k2, rfl, k20, k21, R', g'⟩
  replace R := R'
  replace G := only_trans G g'
  replace H0 := box_only H0 g' hrb
  clear R' g'
  go_wp2_with fail
  refine (pick_any rb _ (2) _ R (by omega)).mono ?_
  rintro e w3 ⟨k3, rfl, k30, k31, R', g'⟩
  replace R := R'
  replace G := only_trans G g'
  replace H0 := box_only H0 g' hrb
  clear R' g'
  go_wp2_with fail
  refine name_calls fun W2 hW2 => ?_
  have z3 := box_lt H0
  have F : FS w W2 rb w3.heap.size (m + 1 + 1 + 1) #[.int .i64 0, .int .i64 0, .int .i64 0] #[.int .i64 (5 + k1), .int .i64 k2, .int .i64 (1 + k3)] 24 3 1 none 0 0 [] := by
    rw [hW2]
    exact { rl := hrb, bl := by omega, ne := by decide, R := rd_alloc R _, G := only_alloc G _, H0 := box_alloc H0 _, H := heap_new_at _ _ _ rfl, o := World.ownsRow_nil _ _ _ _ }
  clear hW2 R G H0
  generalize w3.heap.size = b3 at *
  refine (pick_any rb _ 40 W2 F.R (by omega)).mono ?_
  rintro e w9 ⟨k9, rfl, k90, k91, R', g'⟩
  replace F := F.pick R' g'
  clear R' g'
  by_cases h0 : k9 = 0
  · subst h0
    go_wp2_with fail
    refine name_calls fun WA hWA => ?_
    have rA : Ints WA (some ⟨w9.heap.size, 0, none⟩) [4, 9] := by rw [hWA]; exact ints_new w9 [4, 9] _ _ rfl
    have hz4 := Nat.lt_trans F.rl F.zlt
    replace F := F.alloc (.cells #[.int .i64 4, .int .i64 9] 3)
    rw [← hWA] at F
    clear hWA
    refine (pick_any rb _ 2 WA F.R (by omega)).mono ?_
    rintro e w10 ⟨k5, rfl, k50, k51, R5, g5⟩
    replace rA := cells_only rA g5 hz4
    replace F := F.pick R5 g5
    obtain ⟨j, rfl⟩ := Int.eq_ofNat_of_zero_le k50
    have hj : j < 2 := by omega
    have hjI : (j : Int) < 2 := by omega
    obtain ⟨b, off, v, hb, hv, hcv⟩ := Ints.at_ rA (k := j) hj
    injection hb with hb
    injection hb with hb1 hb2 _
    subst hb1 hb2
    rw [Nat.zero_add] at hcv
    have hv2 : -1 ≤ v ∧ v ≤ 9 := by
      have := List.mem_of_getElem? hv
      simp at this
      omega
    have hv0 := hv2.1
    have hv1 := hv2.2
    clear hv hv2 rA k51 R5 g5
    obtain ⟨c0, c1, c2, f0, f1, f2⟩ := three_cells F.H
    obtain ⟨d0, d1, d2, e0, e1, e2⟩ := three_cells F.H0
    have hne := F.bl
    have hne2 : b3 ≠ w.heap.size := by omega
    go_wp2
    refine bodyPost_ret (v := .agg #[.int .i64 (v), .int .i64 (k2), .int .i64 (1 + k3)]) (by simp [results, Tryd.results31, go_sem, *]) rfl ?_
    obtain ⟨RR, GG, _⟩ := FS.fin (F.set 0 (.int .i64 v)) (only_setR (only_setR (only_setR (only_refl _ _) 0 (.int .i64 (v))) 1 (.int .i64 (k2))) 2 (.int .i64 (1 + k3)))
    exact ⟨_, _, _, rfl, by omega, by omega, RR.mono (by omega), GG⟩
  have hb0 : (k9 == 0) = false := by simpa using h0
  by_cases h1 : k9 = 1
  · subst h1
    clear h0 hb0
    go_wp2_with fail
    refine name_calls fun WA hWA => ?_
    have rA : Ints WA (some ⟨w9.heap.size, 0, none⟩) [-1, 3] := by rw [hWA]; exact ints_new w9 [-1, 3] _ _ rfl
    have hz4 := Nat.lt_trans F.rl F.zlt
    replace F := F.alloc (.cells #[.int .i64 (-1), .int .i64 3] 3)
    rw [← hWA] at F
    clear hWA
    refine (pick_any rb _ 2 WA F.R (by omega)).mono ?_
    rintro e w10 ⟨k5, rfl, k50, k51, R5, g5⟩
    replace rA := cells_only rA g5 hz4
    replace F := F.pick R5 g5
    obtain ⟨j, rfl⟩ := Int.eq_ofNat_of_zero_le k50
    have hj : j < 2 := by omega
    have hjI : (j : Int) < 2 := by omega
    obtain ⟨b, off, v, hb, hv, hcv⟩ := Ints.at_ rA (k := j) hj
    injection hb with hb
    injection hb with hb1 hb2 _
    subst hb1 hb2
    rw [Nat.zero_add] at hcv
    have hv2 : -1 ≤ v ∧ v ≤ 9 := by
      have := List.mem_of_getElem? hv
      simp at this
      omega
    have hv0 := hv2.1
    have hv1 := hv2.2
    clear hv hv2 rA k51 R5 g5
    obtain ⟨c0, c1, c2, f0, f1, f2⟩ := three_cells F.H
    obtain ⟨d0, d1, d2, e0, e1, e2⟩ := three_cells F.H0
    have hne := F.bl
    have hne2 : b3 ≠ w.heap.size := by omega
    go_wp2
    refine bodyPost_ret (v := .agg #[.int .i64 (5 + k1), .int .i64 (v), .int .i64 (1 + k3)]) (by simp [results, Tryd.results31, go_sem, *]) rfl ?_
    obtain ⟨RR, GG, _⟩ := FS.fin (F.set 1 (.int .i64 v)) (only_setR (only_setR (only_setR (only_refl _ _) 0 (.int .i64 (5 + k1))) 1 (.int .i64 (v))) 2 (.int .i64 (1 + k3)))
    exact ⟨_, _, _, rfl, by omega, by omega, RR.mono (by omega), GG⟩
  have hb1 : (k9 == 1) = false := by simpa using h1
  by_cases h2 : k9 = 2
  · subst h2
    clear h0 hb0 h1 hb1
    go_wp2_with fail
    refine name_calls fun WA hWA => ?_
    have rA : Ints WA (some ⟨w9.heap.size, 0, none⟩) [0, 3] := by rw [hWA]; exact ints_new w9 [0, 3] _ _ rfl
    have hz4 := Nat.lt_trans F.rl F.zlt
    replace F := F.alloc (.cells #[.int .i64 0, .int .i64 3] 3)
    rw [← hWA] at F
    clear hWA
    refine (pick_any rb _ 2 WA F.R (by omega)).mono ?_
    rintro e w10 ⟨k5, rfl, k50, k51, R5, g5⟩
    replace rA := cells_only rA g5 hz4
    replace F := F.pick R5 g5
    obtain ⟨j, rfl⟩ := Int.eq_ofNat_of_zero_le k50
    have hj : j < 2 := by omega
    have hjI : (j : Int) < 2 := by omega
    obtain ⟨b, off, v, hb, hv, hcv⟩ := Ints.at_ rA (k := j) hj
    injection hb with hb
    injection hb with hb1 hb2 _
    subst hb1 hb2
    rw [Nat.zero_add] at hcv
    have hv2 : -1 ≤ v ∧ v ≤ 9 := by
      have := List.mem_of_getElem? hv
      simp at this
      omega
    have hv0 := hv2.1
    have hv1 := hv2.2
    clear hv hv2 rA k51 R5 g5
    obtain ⟨c0, c1, c2, f0, f1, f2⟩ := three_cells F.H
    obtain ⟨d0, d1, d2, e0, e1, e2⟩ := three_cells F.H0
    have hne := F.bl
    have hne2 : b3 ≠ w.heap.size := by omega
    go_wp2
    refine bodyPost_ret (v := .agg #[.int .i64 (5 + k1), .int .i64 (k2), .int .i64 (v)]) (by simp [results, Tryd.results31, go_sem, *]) rfl ?_
    obtain ⟨RR, GG, _⟩ := FS.fin (F.set 2 (.int .i64 v)) (only_setR (only_setR (only_setR (only_refl _ _) 0 (.int .i64 (5 + k1))) 1 (.int .i64 (k2))) 2 (.int .i64 (v)))
    exact ⟨_, _, _, rfl, by omega, by omega, RR.mono (by omega), GG⟩
  have hb2 : (k9 == 2) = false := by simpa using h2
  clear h0 h1 h2
  obtain ⟨c0, c1, c2, f0, f1, f2⟩ := three_cells F.H
  obtain ⟨d0, d1, d2, e0, e1, e2⟩ := three_cells F.H0
  have hne := F.bl
  have hne2 : b3 ≠ w.heap.size := by omega
  go_wp2
  refine bodyPost_ret (v := .agg #[.int .i64 (5 + k1), .int .i64 (k2), .int .i64 (1 + k3)]) (by simp [results, Tryd.results31, go_sem, *]) rfl ?_
  obtain ⟨RR, GG, _⟩ := FS.fin (F) (only_setR (only_setR (only_setR (only_refl _ _) 0 (.int .i64 (5 + k1))) 1 (.int .i64 (k2))) 2 (.int .i64 (1 + k3)))
  exact ⟨_, _, _, rfl, by omega, by omega, RR.mono (by omega), GG⟩
end Go.Proofs.YtkmampichfbppaaDoor
