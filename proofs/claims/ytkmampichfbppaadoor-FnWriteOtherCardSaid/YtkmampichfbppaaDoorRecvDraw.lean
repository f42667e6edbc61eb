/- Receivers: a byte that came is drawn. -/
import Derived.Test.YtkmampichfbppaaDoorFS
import Derived.Test.YtkmampichfbppaaDoorGot
namespace Go.Proofs.YtkmampichfbppaaDoor
open Go.RowKit

set_option maxHeartbeats 4000000 in
theorem l91Got_any (rb m : Nat) (w : World) (h : Rd w rb m) (hm : m ≤ 1000) :
    Calls Tryd.prog 49 #[.pointer (some ⟨rb, 0, none⟩)] w fun e w' => ∃ (b c : Int), e = .returned (.agg #[.int .i64 b, .int .i64 c]) ∧ Rd w' rb (m + 4) ∧ w.grownBy w' (some rb) := by
  have hrb := h.lt
  go_enter Tryd.func49, Tryd.ntmps49
  go_wp2_with fail
  refine name_calls fun W hW => ?_
  have R : Rd W rb m := by rw [hW]; exact rd_alloc h _
  have G : w.grownBy W (some rb) := by rw [hW]; exact only_below ((Below.refl _ _).alloc (Nat.le_refl _) _) _
  have H0 : W.heap[w.heap.size]? = some (.cells #[.int .i64 0, .int .i64 0] 82 (0, 0)) := by rw [hW]; exact heap_new_at _ _ _ rfl
  clear hW h
  refine (pick_any rb _ 256 W R (by omega)).mono ?_
  rintro e w1 ⟨k1, rfl, k10, k11, R', g'⟩
  replace R := R'
  replace G := only_trans G g'
  replace H0 := box_only H0 g' hrb
  clear R' g'
  go_wp2_with fail
  refine name_calls fun W2 hW2 => ?_
  have z3 := box_lt H0
  have F : FS w W2 rb w1.heap.size (m + 1) #[.int .i64 0, .int .i64 0] #[.int .i64 k1, .int .i64 0] 82 3 1 none 0 0 [] := by
    rw [hW2]
    exact { rl := hrb, bl := by omega, ne := by decide, R := rd_alloc R _, G := only_alloc G _, H0 := box_alloc H0 _, H := heap_new_at _ _ _ rfl, o := World.ownsRow_nil _ _ _ _ }
  clear hW2 R G H0
  generalize w1.heap.size = b3 at *
  refine (pick_any rb _ 10 W2 F.R (by omega)).mono ?_
  rintro e w2 ⟨k2, rfl, k20, k21, R', g'⟩
  replace F := F.pick R' g'
  clear R' g'
  by_cases h0 : k2 = 0
  case' pos =>
    subst h0
    obtain ⟨c0, c1, f0, f1⟩ := two_cells F.H
    obtain ⟨d0, d1, e0, e1⟩ := two_cells F.H0
    have hne := F.bl
    have hne2 : b3 ≠ w.heap.size := by omega
    go_wp2_with fail
    refine name_calls fun W8 hW8 => ?_
    replace F := F.set 1 (.int .i64 1)
    rw [← hW8] at F
    clear hW8 c0 c1 f0 f1 d0 d1 e0 e1 hne hne2
    have F8 : Hid (∃ cc : Int, FS w W8 rb b3 (m + 1 + 1) #[.int .i64 0, .int .i64 0] #[.int .i64 k1, .int .i64 cc] 82 3 1 none 0 0 []) := Lib.hid ⟨1, F⟩
    clear F
  case' neg =>
    have hb0 : (k2 == 0) = false := by simpa using h0
    clear h0
    by_cases h1 : k2 = 1
    case' pos =>
      subst h1
      obtain ⟨c0, c1, f0, f1⟩ := two_cells F.H
      obtain ⟨d0, d1, e0, e1⟩ := two_cells F.H0
      have hne := F.bl
      have hne2 : b3 ≠ w.heap.size := by omega
      go_wp2_with fail
      refine name_calls fun W8 hW8 => ?_
      replace F := F.set 1 (.int .i64 2)
      rw [← hW8] at F
      clear hW8 c0 c1 f0 f1 d0 d1 e0 e1 hne hne2
      have F8 : Hid (∃ cc : Int, FS w W8 rb b3 (m + 1 + 1) #[.int .i64 0, .int .i64 0] #[.int .i64 k1, .int .i64 cc] 82 3 1 none 0 0 []) := Lib.hid ⟨2, F⟩
      clear F
    case' neg =>
      have hb1 : (k2 == 1) = false := by simpa using h1
      clear h1
      go_wp2_with fail
      obtain ⟨W8, rfl⟩ : ∃ W8 : World, W8 = w2 := ⟨_, rfl⟩
      have F8 : Hid (∃ cc : Int, FS w W8 rb b3 (m + 1 + 1) #[.int .i64 0, .int .i64 0] #[.int .i64 k1, .int .i64 cc] 82 3 1 none 0 0 []) := Lib.hid ⟨0, F⟩
      clear F
  all_goals
    obtain ⟨cc, F⟩ := F8.out
    clear F8
    refine (pick_any rb _ 40 _ F.R (by omega)).mono ?_
    rintro e w9 ⟨k9, rfl, k90, k91, R', g'⟩
    replace F := F.pick R' g'
    clear R' g'
    by_cases h9 : k9 = 0
    · subst h9
      go_wp2_with fail
      refine name_calls fun WA hWA => ?_
      have rA : Ints WA (some ⟨w9.heap.size, 0, none⟩) [-1, 3] := by rw [hWA]; exact ints_new w9 [-1, 3] _ _ rfl
      have hz4 := Nat.lt_trans F.rl F.zlt
      replace F := F.alloc (.cells #[.int .i64 (-1), .int .i64 3] 3)
      rw [← hWA] at F
      clear hWA
      refine (pick_any rb _ 2 WA F.R (by omega)).mono ?_
      rintro e w10 ⟨k5, rfl, k50, k51, R5, g5⟩
      replace rA := cells_only rA g5 hz4
      replace F := F.pick R5 g5
      obtain ⟨j, rfl⟩ := Int.eq_ofNat_of_zero_le k50
      have hj : j < 2 := by omega
      have hjI : (j : Int) < 2 := by omega
      obtain ⟨b, off, v, hb, hv, hcv⟩ := Ints.at_ rA (k := j) hj
      injection hb with hb
      injection hb with hb1 hb2 _
      subst hb1 hb2
      rw [Nat.zero_add] at hcv
      clear hv rA k51 R5 g5
      obtain ⟨c0, c1, f0, f1⟩ := two_cells F.H
      obtain ⟨d0, d1, e0, e1⟩ := two_cells F.H0
      have hne := F.bl
      have hne2 : b3 ≠ w.heap.size := by omega
      go_wp2
      refine bodyPost_ret (v := .agg #[.int .i64 k1, .int .i64 (v)]) (by simp [results, Tryd.results49, go_sem, *]) rfl ?_
      obtain ⟨RR, GG, _⟩ := FS.fin (F.set 1 (.int .i64 v)) (only_setR (only_setR (only_refl _ _) 0 (.int .i64 k1)) 1 (.int .i64 (v)))
      exact ⟨_, _, rfl, RR.mono (by omega), GG⟩
    · have hb9 : (k9 == 0) = false := by simpa using h9
      clear h9
      obtain ⟨c0, c1, f0, f1⟩ := two_cells F.H
      obtain ⟨d0, d1, e0, e1⟩ := two_cells F.H0
      have hne := F.bl
      have hne2 : b3 ≠ w.heap.size := by omega
      go_wp2
      refine bodyPost_ret (v := .agg #[.int .i64 k1, .int .i64 (cc)]) (by simp [results, Tryd.results49, go_sem, *]) rfl ?_
      obtain ⟨RR, GG, _⟩ := FS.fin (F) (only_setR (only_setR (only_refl _ _) 0 (.int .i64 k1)) 1 (.int .i64 (cc)))
      exact ⟨_, _, rfl, RR.mono (by omega), GG⟩
end Go.Proofs.YtkmampichfbppaaDoor
