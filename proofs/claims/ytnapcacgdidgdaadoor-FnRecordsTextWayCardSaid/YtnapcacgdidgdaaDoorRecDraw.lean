/- Records: the draws. -/
import Derived.Test.YtnapcacgdidgdaaDoorRec2
import Derived.Test.YtnapcacgdidgdaaDoorDraw
namespace Go.Proofs.YtnapcacgdidgdaaDoor
open Go.RowKit

theorem OwnR.snoc {w : World} {base c : Nat} {ao : Option Addr} {L : List Rec} {r : Rec} (h : w.ownsRow base 29 3 (.slice ao (L.length + 1) c) (L.length + 1) (L.flatMap recCells ++ [.int .i64 r.t, .int .i64 r.w, .int .i64 r.b])) : OwnR w base ao c (L ++ [r]) := by
  have e : (L ++ [r]).flatMap recCells = L.flatMap recCells ++ [.int .i64 r.t, .int .i64 r.w, .int .i64 r.b] := by rw [List.flatMap_append]; rfl
  unfold OwnR
  rw [e, List.length_append]
  exact h
theorem OwnR.only {w w' : World} {base c rb : Nat} {ao : Option Addr} {L : List Rec} (h : OwnR w base ao c L) (hg : w.grownBy w' (some rb)) (hr : rb < base) : OwnR w' base ao c L :=
  own_only h hg fun g hgo => by have := own_lt h hgo; omega
def recSet (r : Rec) (j : Nat) (n : Int) : Rec := if j = 0 then ⟨n, r.w, r.b⟩ else if j = 1 then ⟨r.t, n, r.b⟩ else ⟨r.t, r.w, n⟩
theorem recSet_cells (r : Rec) (j : Nat) (n : Int) (hj : j < 3) : (recCells r).set j (.int .i64 n) = recCells (recSet r j n) := by
  obtain rfl | rfl | rfl : j = 0 ∨ j = 1 ∨ j = 2 := by omega
  · rfl
  · rfl
  · rfl
theorem recs_set : ∀ (L : List Rec) (k : Nat) (hk : k < L.length) (j : Nat) (_ : j < 3) (n : Int), (L.flatMap recCells).set (k * 3 + j) (.int .i64 n) = (L.set k (recSet L[k] j n)).flatMap recCells
  | [], k, hk, _, _, _ => by simp at hk
  | r :: L, 0, _, j, hj, n => by
    rw [List.flatMap_cons, List.set_cons_zero, List.flatMap_cons, Nat.zero_mul, Nat.zero_add, List.set_append_left _ _ (by rw [recCells_length]; exact hj), recSet_cells r j n hj]
    rfl
  | r :: L, k + 1, hk, j, hj, n => by
    have hk' : k < L.length := by simpa using hk
    rw [List.flatMap_cons, List.set_cons_succ, List.flatMap_cons, List.set_append_right _ _ (by rw [recCells_length]; omega), recCells_length, show (k + 1) * 3 + j - 3 = k * 3 + j by omega, recs_set L k hk' j hj n]
    rfl
/-- One field of one record is written. -/
theorem OwnR.put {w : World} {base c : Nat} {ao : Option Addr} {L : List Rec} (h : OwnR w base ao c L) {k : Nat} (hk : k < L.length) (j : Nat) (hj : j < 3) (n : Int) :
    ∃ g u, ao = some ⟨g, 0, none⟩ ∧ base ≤ g ∧ w.cell? ⟨g, k * 3 + j, none⟩ = some u ∧ w.frozen? ⟨g, k * 3 + j, none⟩ = false ∧
      OwnR (w.setCell ⟨g, k * 3 + j, none⟩ (.int .i64 n)) base ao c (L.set k (recSet L[k] j n)) ∧ w.grownBy (w.setCell ⟨g, k * 3 + j, none⟩ (.int .i64 n)) (some g) := by
  have hl : (L.flatMap recCells).length = L.length * 3 := flatN_length recCells 3 recCells_length L
  rcases own_head h with ⟨_, h0, _⟩ | ⟨g, rfl, hgb, hgs⟩
  · omega
  obtain ⟨u, hu⟩ := own_cell_ex h (j := k * 3 + j) (by omega)
  obtain ⟨h1, h2⟩ := h.stored (k * 3 + j) (.int .i64 n)
  refine ⟨g, u, rfl, hgb, hu, h.frozenAt _, ?_, h2⟩
  unfold OwnR
  rw [List.length_set, ← recs_set L k hk j hj n]
  exact h1

set_option maxHeartbeats 2000000 in
theorem l92Records_any (rb m : Nat) (w : World) (h : Rd w rb m) (hm : m ≤ 1000) :
    Calls Tryd.prog 13 #[.pointer (some ⟨rb, 0, none⟩)] w fun e w' => ∃ ao c rs, e = .returned (.slice ao rs.length c) ∧ OwnR w' w.heap.size ao c rs ∧ rs.length ≤ 31 ∧ Rd w' rb (m + 200) ∧ w.grownBy w' (some rb) := by
  have hrb := h.lt
  have b0 : Below w.heap.size w (w.alloc (.cells #[] 29)) := (Below.refl _ _).alloc (Nat.le_refl _) _
  have o0 : OwnR (w.alloc (.cells #[] 29)) w.heap.size (some ⟨w.heap.size, 0, none⟩) 0 [] := World.ownsRow_made w #[] 0 (Nat.le_refl _) (by simp) (by simp)
  have G0 := only_below b0 (some rb)
  have R0 := h.below b0
  have Z0 := b0.size
  clear b0
  go_enter Tryd.func13, Tryd.ntmps13
  go_wp2_with fail
  generalize w.alloc (.cells #[] 29) = w0 at *
  refine (pick_any rb m 9 w0 R0 (by omega)).mono ?_
  rintro e w1 ⟨k1, rfl, k10, k11, R1, g1⟩
  have G1 := only_trans G0 g1
  have o1 := o0.only g1 hrb
  clear o0 R0 g1 G0
  go_wp2_with fail
  refine (pick_any rb (m + 1) 24 w1 R1 (by omega)).mono ?_
  rintro e w2 ⟨k2, rfl, k20, k21, R2, g2⟩
  have G2 := only_trans G1 g2
  have o2 := o1.only g2 hrb
  clear o1 R1 g2 G1
  have fin : ∀ (n M : Nat) (w2 : World), n ≤ 31 → M ≤ m + 4 → Rd w2 rb M → w.grownBy w2 (some rb) → OwnR w2 w.heap.size (some ⟨w.heap.size, 0, none⟩) 0 [] → True := fun _ _ _ _ _ _ _ _ => trivial
  clear fin
  have hrest : ∀ (n : Nat) (w3 : World) (b : Prop), n ≤ 31 → Rd w3 rb (m + 3) → OwnR w3 w.heap.size (some ⟨w.heap.size, 0, none⟩) 0 [] → w.grownBy w3 (some rb) → b → b := fun _ _ _ _ _ _ _ h => h
  clear hrest
  by_cases hk2 : k2 = 0
  case' pos =>
    subst hk2
    go_wp2_with fail
    refine (pick_any rb (m + 1 + 1) 2 w2 R2 (by omega)).mono ?_
    rintro e w3 ⟨k3, rfl, k30, k31, R3, g3⟩
    have G3 := only_trans G2 g3
    have o3 := o2.only g3 hrb
    clear o2 R2 g3 G2
    obtain ⟨n, hn⟩ : ∃ n : Nat, 30 + k3 = (n : Int) := Int.eq_ofNat_of_zero_le (by omega)
    have hn31 : n ≤ 31 := by omega
    clear k30 k31 k10 k11
    go_wp2_with fail
    clear hn
  case' neg =>
    have hkb : (k2 == 0) = false := by simpa using hk2
    obtain ⟨n, rfl⟩ := Int.eq_ofNat_of_zero_le k10
    have hn31 : n ≤ 31 := by omega
    have R3 := R2.mono (show m + 1 + 1 ≤ m + 1 + 1 + 1 by omega)
    have G3 := G2
    have o3 := o2
    clear o2 R2 G2 hk2
    obtain ⟨w3, rfl⟩ : ∃ w3 : World, w3 = w2 := ⟨_, rfl⟩
    go_wp2_with fail
  all_goals
    go_loopw [3, 5, 6] (fun v at_ i wr => ∃ (k : Nat) (L : List Rec) (ao : Option Addr) (c : Nat) (t : Int), k ≤ n ∧ i = .int .i64 k ∧ v = .slice ao k c ∧ L.length = k ∧ at_ = .int .i64 t ∧ 0 ≤ t ∧ t ≤ 8 * (k : Int) ∧ OwnR wr w.heap.size ao c L ∧ Rd wr rb (m + 3 + 3 * k) ∧ w.grownBy wr (some rb)) (fun _ _ i _ => n - (intOf i).toNat)
    case atStart => exact ⟨0, [], _, 0, 0, Nat.zero_le _, rfl, rfl, rfl, rfl, by omega, by omega, o3, R3, G3⟩
    case round =>
      obtain ⟨k, L, ao, c, t, hk, rfl, rfl, hL, rfl, t0, t1, ho, hR, hG⟩ := hrel
      have HL := Lib.hid hL
      have hz := hG.size
      have hoL : wr.ownsRow w.heap.size 29 3 (.slice ao k c) k (L.flatMap recCells) := by rw [← hL]; exact ho
      clear hL ho o3 R3 G3
      by_cases hlt : k < n
      · go_wp2_with fail
        refine (pick_any rb _ 8 wr hR (by omega)).mono ?_
        rintro e w4 ⟨d, rfl, d0, d1, R4, g4⟩
        have G4 := only_trans hG g4
        have o4 := own_only hoL g4 fun g hgo => by have := own_lt hoL hgo; omega
        clear hoL hR g4 hG
        go_wp2_with fail
        refine (pick_any rb _ 2 w4 R4 (by omega)).mono ?_
        rintro e w5 ⟨x, rfl, x0, x1, R5, g5⟩
        have G5 := only_trans G4 g5
        have o5 := own_only o4 g5 fun g hgo => by have := own_lt o4 hgo; omega
        clear o4 R4 g5 G4
        go_wp2_with fail
        refine (pick_any rb _ 256 w5 R5 (by omega)).mono ?_
        rintro e w6 ⟨y, rfl, y0, y1, R6, g6⟩
        have G6 := only_trans G5 g6
        have o6 := own_only o5 g6 fun g hgo => by have := own_lt o5 hgo; omega
        have z6 := G6.size
        clear o5 R5 g6 G5
        go_wp2_with (
          at_builtin
          refine name_list fun W hW => ?_
          have hgW : w6.grownBy W (some rb) := by rw [hW]; exact only_below ((Below.refl _ _).alloc (Nat.le_refl _) _) _
          have hoW : W.ownsRow w.heap.size 29 3 (.slice ao k c) k (L.flatMap recCells) := by rw [hW]; exact o6.alloc _
          have hRW : Rd W rb (m + 3 + 3 * (k + 1)) := by rw [hW]; exact (R6.below ((Below.refl _ _).alloc (Nat.le_refl _) _)).mono (by omega)
          have hcW : Cells W (some ⟨w6.heap.size, 0, none⟩) [.int .i64 (t + d), .int .i64 x, .int .i64 y] := by rw [hW]; exact cells_new _ #[.int .i64 (t + d), .int .i64 x, .int .i64 y] _ rfl
          have zW : w.heap.size ≤ W.heap.size := Nat.le_trans z6 hgW.size
          clear hW o6 R6
          refine wpList_append_row W rfl _ _ _ rfl w.heap.size 29 _ 3 24 Tryd.underlying23 rec_info rfl (by decide) ao k c _ (by rfl) hoW (some ⟨w6.heap.size, 0, none⟩) 1 1 [.int .i64 (t + d), .int .i64 x, .int .i64 y] (by rfl) hcW rfl (by simp [Value.oneCell']) (by simp) (by simp only [maxLen]; omega) (by omega) zW ?_
          intro ao2 c2 w7 ho2 hg2
          have hr2 : ∀ g, (Value.slice ao k c).ownBlock = some g → w.heap.size ≤ g := fun g hg => (hoW.lt g hg).1
          have G7 := only_grown (only_trans G6 hgW) hg2 hr2
          have R7 := hRW.grown hg2 fun g hg => by have := hr2 g hg; omega
          clear hoW hg2 hcW hRW hgW G6 hr2)
        go_roundw
        case rel => exact ⟨k + 1, L ++ [⟨t + d, x, y⟩], ao2, c2, t + d, by omega, by go_num, by simp, by rw [List.length_append, HL.out]; rfl, rfl, by omega, by omega, OwnR.snoc (by rw [HL.out]; exact ho2), R7, G7⟩
        case measure => simp [intOf]; omega
      · have hkn : k = n := by omega
        subst hkn
        have oR : OwnR wr w.heap.size ao c L := by unfold OwnR; rw [HL.out]; exact hoL
        clear hoL
        by_cases hn0 : k = 0
        · have HN0 := Lib.hid hn0
          have hk0 : (k : Int) ≤ 0 := by omega
          clear hn0
          go_wp2
          go_ret
          exact ⟨ao, c, L, by rw [HL.out]; rfl, oR, by rw [HL.out]; omega, hR.mono (by omega), hG⟩
        · have hk1 : 0 < k := by omega
          clear hn0
          go_wp2_with fail
          refine (pick_any rb _ 30 wr hR (by omega)).mono ?_
          rintro e w4 ⟨q, rfl, q0, q1, R4, g4⟩
          have G4 := only_trans hG g4
          have oR := oR.only g4 hrb
          clear hR g4 hG
          by_cases hq0 : q = 0
          · subst hq0
            go_wp2_with fail
            refine (pick_any rb _ (k : Int) w4 R4 (by omega)).mono ?_
            rintro e w5 ⟨r, rfl, r0, r1, R5, g5⟩
            have G5 := only_trans G4 g5
            have oR := oR.only g5 hrb
            obtain ⟨r, rfl⟩ := Int.eq_ofNat_of_zero_le r0
            have hrk : r < k := by omega
            clear R4 g5 G4 r1
            go_wp2_with fail
            refine (pick_any rb _ 40 w5 R5 (by omega)).mono ?_
            rintro e w6 ⟨y, rfl, y0, y1, R6, g6⟩
            have G6 := only_trans G5 g6
            have oR := oR.only g6 hrb
            clear R5 g6 G5
            obtain ⟨g, u, rfl, hgb, hc, hf, hp, hgr⟩ := OwnR.put oR (show r < L.length by rw [HL.out]; omega) 0 (by omega) (y - 1)
            have HP := Lib.hid hp
            have RP := R6.grown hgr (fun g' hg' => by injection hg' with hg'; subst hg'; omega)
            have GP := only_grown G6 hgr (fun g' hg' => by injection hg' with hg'; subst hg'; omega)
            try simp only [Nat.add_zero] at hc hf HP RP GP
            clear oR hp hgr R6 G6
            go_wp2
            go_ret
            exact ⟨some ⟨g, 0, none⟩, c, _, by rw [List.length_set, HL.out]; rfl, HP.out, by rw [List.length_set, HL.out]; omega, RP.mono (by omega), GP⟩
          by_cases hq1 : q = 1
          · subst hq1
            go_wp2_with fail
            refine (pick_any rb _ (k : Int) w4 R4 (by omega)).mono ?_
            rintro e w6 ⟨r, rfl, r0, r1, R6, g6⟩
            have G6 := only_trans G4 g6
            have oR := oR.only g6 hrb
            obtain ⟨r, rfl⟩ := Int.eq_ofNat_of_zero_le r0
            have hrk : r < k := by omega
            clear R4 g6 G4 r1
            obtain ⟨g, u, rfl, hgb, hc, hf, hp, hgr⟩ := OwnR.put oR (show r < L.length by rw [HL.out]; omega) 2 (by omega) (256)
            have HP := Lib.hid hp
            have RP := R6.grown hgr (fun g' hg' => by injection hg' with hg'; subst hg'; omega)
            have GP := only_grown G6 hgr (fun g' hg' => by injection hg' with hg'; subst hg'; omega)
            try simp only [Nat.add_zero] at hc hf HP RP GP
            clear oR hp hgr R6 G6
            go_wp2
            go_ret
            exact ⟨some ⟨g, 0, none⟩, c, _, by rw [List.length_set, HL.out]; rfl, HP.out, by rw [List.length_set, HL.out]; omega, RP.mono (by omega), GP⟩
          have b0 : (q == 0) = false := by simpa using hq0
          have b1 : (q == 1) = false := by simpa using hq1
          clear hq0 hq1
          go_wp2
          go_ret
          exact ⟨ao, c, L, by rw [HL.out]; rfl, oR, by rw [HL.out]; omega, R4.mono (by omega), G4⟩



end Go.Proofs.YtnapcacgdidgdaaDoor
