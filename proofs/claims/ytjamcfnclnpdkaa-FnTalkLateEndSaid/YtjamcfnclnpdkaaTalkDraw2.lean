/- Talks: the draws of what is sent, and of the arguments. -/
import Derived.Test.YtjamcfnclnpdkaaTalkDraw
namespace Go.Proofs.Ytjamcfnclnpdkaa
open Go.RowKit

set_option maxHeartbeats 2000000 in
theorem l92Body_any (rb m : Nat) (w : World) (h : Rd w rb m) (hm : m ≤ 1000) :
    Calls Try.prog 52 #[.pointer (some ⟨rb, 0, none⟩)] w fun e w' => ∃ (a : Option Addr) (xs : List Int) (c : Nat), e = .returned (.slice a xs.length c) ∧ xs.length ≤ 18 ∧ OwnI w' w.heap.size a c xs ∧ Rd w' rb (m + 30) ∧ w.grownBy w' (some rb) := by
  have hrb := h.lt
  go_enter Try.func52, Try.ntmps52
  go_wp2_with fail
  refine name_calls fun W hW => ?_
  have R : Rd W rb m := by rw [hW]; exact rd_alloc h _
  have G : w.grownBy W (some rb) := by rw [hW]; exact only_below ((Below.refl _ _).alloc (Nat.le_refl _) _) _
  have o0 : OwnI W w.heap.size (some ⟨w.heap.size, 0, none⟩) 0 [] := by rw [hW]; exact own_made_at w #[] _ _ 0 _ _ rfl (Nat.le_refl _) (by simp) rfl
  clear hW h
  refine (pick_any rb _ 6 W R (by omega)).mono ?_
  rintro e w1 ⟨k1, rfl, k10, k11, R', g⟩
  replace R := R'
  replace G := only_trans G g
  replace o0 := own_only o0 g (fun q hq => by have := (own_in o0 _ hq).1; simp at this; omega)
  clear g R'
  go_wp2_with fail
  refine (pick_any rb _ 20 w1 R (by omega)).mono ?_
  rintro e w2 ⟨k2, rfl, k20, k21, R', g⟩
  replace R := R'
  replace G := only_trans G g
  replace o0 := own_only o0 g (fun q hq => by have := (own_in o0 _ hq).1; simp at this; omega)
  clear g R'
  by_cases hk : k2 = 0
  case' pos =>
    subst hk
    go_wp2_with fail
    refine name_calls fun WA hWA => ?_
    have rA := ints_new w2 [0, 17, 18] #[.int .i64 0, .int .i64 17, .int .i64 18] 3 rfl
    replace R := rd_alloc R (.cells #[.int .i64 0, .int .i64 17, .int .i64 18] 3)
    have z2 := G.size
    replace G := only_alloc G (.cells #[.int .i64 0, .int .i64 17, .int .i64 18] 3)
    replace o0 := World.ownsRow.alloc o0 (.cells #[.int .i64 0, .int .i64 17, .int .i64 18] 3)
    rw [← hWA] at rA R G o0
    clear hWA
    refine (pick_any rb _ 3 WA R (by omega)).mono ?_
    rintro e wB ⟨kA, rfl, kA0, kA1, R', g⟩
    replace R := R'
    replace G := only_trans G g
    replace o0 := own_only o0 g (fun q hq => by have := (own_in o0 _ hq).1; simp at this; omega)
    replace rA := cells_only rA g (by omega)
    clear g R'
    obtain ⟨j, rfl⟩ := Int.eq_ofNat_of_zero_le kA0
    have hj : j < 3 := by omega
    have hjI : (j : Int) < 3 := by omega
    obtain ⟨b, off, v, hb, hv, hcv⟩ := Ints.at_ rA (k := j) hj
    injection hb with hb
    injection hb with hb1 hb2 hb3
    subst hb1 hb2
    obtain ⟨n, hn, hn18⟩ : ∃ n : Nat, v = (n : Int) ∧ n ≤ 18 := by
      match j, hj with
      | 0, _ => simp at hv; exact ⟨0, by omega, by omega⟩
      | 1, _ => simp at hv; exact ⟨17, by omega, by omega⟩
      | 2, _ => simp at hv; exact ⟨18, by omega, by omega⟩
    subst hn
    rw [Nat.zero_add] at hcv
    clear hv rA kA1 hb3 k11 k10 k20 k21
    go_wp2_with fail
    replace R := R.mono (show _ ≤ m + 3 by omega)
    clear hcv z2
    obtain ⟨w3, rfl⟩ : ∃ w3 : World, w3 = wB := ⟨_, rfl⟩
  case' neg =>
    have hkb : (k2 == 0) = false := by simpa using hk
    clear hk
    obtain ⟨n, hn⟩ := Int.eq_ofNat_of_zero_le (show 0 ≤ 1 + k1 by omega)
    have hn18 : n ≤ 18 := by omega
    rw [hn]
    clear k11 k21 k20
    go_wp2_with fail
    replace R := R.mono (show _ ≤ m + 3 by omega)
    clear hn hkb k10
    obtain ⟨w3, rfl⟩ : ∃ w3 : World, w3 = w2 := ⟨_, rfl⟩
  all_goals
    go_loopw [3, 5] (fun v i wr => ∃ (k : Nat) (L : List Int) (ao : Option Addr) (c : Nat), k ≤ n ∧ i = .int .i64 k ∧ v = .slice ao k c ∧ L.length = k ∧ OwnI wr w.heap.size ao c L ∧ Rd wr rb (m + 3 + k) ∧ w.grownBy wr (some rb)) (fun _ i _ => n - (intOf i).toNat)
    case atStart => exact ⟨0, [], _, 0, Nat.zero_le _, rfl, rfl, rfl, o0, R, G⟩
    case round =>
      obtain ⟨k, L, ao, c, hk, rfl, rfl, hL, ho, hR, hG⟩ := hrel
      have HL := Lib.hid hL
      have hz := hG.size
      have hoL : wr.ownsRow w.heap.size 3 1 (.slice ao k c) k (L.map (Value.int .i64)) := by rw [← hL]; exact ho
      clear hL ho o0 R G
      by_cases hlt : k < n
      · go_wp2_with fail
        refine (pick_any rb _ 256 wr hR (by omega)).mono ?_
        rintro e w6 ⟨y, rfl, y0, y1, R6, g6⟩
        have G6 := only_trans hG g6
        have o6 := own_only hoL g6 fun q hq => by have := own_lt hoL hq; omega
        have z6 := G6.size
        clear hoL hR g6 hG
        go_wp2_with (
          at_builtin
          refine name_list fun W hW => ?_
          have hgW : w6.grownBy W (some rb) := by rw [hW]; exact only_below ((Below.refl _ _).alloc (Nat.le_refl _) _) _
          have hoW : W.ownsRow w.heap.size 3 1 (.slice ao k c) k (L.map (Value.int .i64)) := by rw [hW]; exact o6.alloc _
          have hRW : Rd W rb (m + 3 + (k + 1)) := by rw [hW]; exact (R6.below ((Below.refl _ _).alloc (Nat.le_refl _) _)).mono (by omega)
          have hcW : Cells W (some ⟨w6.heap.size, 0, none⟩) [.int .i64 y] := by rw [hW]; exact cells_new _ #[.int .i64 y] _ rfl
          have zW : w.heap.size ≤ W.heap.size := Nat.le_trans z6 hgW.size
          clear hW o6 R6
          refine wpList_append_row W rfl _ _ _ rfl w.heap.size 3 _ 1 8 Try.underlying23 int_info rfl (by decide) ao k c _ (by rfl) hoW (some ⟨w6.heap.size, 0, none⟩) 1 1 [.int .i64 y] (by rfl) hcW rfl (by simp [Value.oneCell']) (by simp) (by simp only [maxLen]; omega) (by omega) zW ?_
          intro ao2 c2 w7 ho2 hg2
          have hr2 : ∀ q, (Value.slice ao k c).ownBlock = some q → w.heap.size ≤ q := fun q hq => (hoW.lt q hq).1
          have G7 := only_grown (only_trans G6 hgW) hg2 hr2
          have R7 := hRW.grown hg2 fun q hq => by have := hr2 q hq; omega
          clear hoW hg2 hcW hRW hgW G6 hr2)
        go_roundw
        case rel => exact ⟨k + 1, L ++ [y], ao2, c2, by omega, by go_num, by simp, by rw [List.length_append, HL.out]; rfl, OwnI.snoc (by rw [HL.out]; exact ho2), R7, G7⟩
        case measure => simp [intOf]; omega
      · have hkn : k = n := by omega
        subst hkn
        have oR : OwnI wr w.heap.size ao c L := by unfold OwnI; rw [HL.out]; exact hoL
        clear hoL
        go_wp2
        go_ret
        exact ⟨ao, L, c, by rw [HL.out]; rfl, by rw [HL.out]; omega, oR, hR.mono (by omega), hG⟩

theorem drawTalkValid_any (ao : Option Addr) (bs : List Int) (c : Nat) (w : World) (h : Bytes w ao bs) (hc : bs.length ≤ c) (lx : bs.length ≤ 1048576) :
    Calls Try.prog 15 #[.slice ao bs.length c] w fun e w' => ∃ (n t : Int) (a : Option Addr) (xs : List Int) (c : Nat), e = .returned (.agg #[.int .i64 n, .int .i64 t, .slice a xs.length c]) ∧ xs.length ≤ 2 ∧ Ints w' a xs ∧ Below w.heap.size w w' := by
  have b0 : Below w.heap.size w (w.alloc (.cells #[.int .i64 0, .int .i64 0, .slice none 0 0] 25)) := (Below.refl _ _).alloc (Nat.le_refl _) _
  have B0 := Lib.hid b0
  have hx0 := h.below b0
  clear b0
  go_enter Try.func15, Try.ntmps15
  go_wp2_with fail
  refine (l6Open_any ao bs c _ hx0 hc (by omega)).mono ?_
  rintro e w1 ⟨rb, rfl, hrb, R1, b1⟩
  have H2 := (b1.block _ (by simp)).trans (heap_new_at w (.cells #[.int .i64 0, .int .i64 0, .slice none 0 0] 25) _ rfl)
  simp only [World.size_alloc] at hrb
  go_wp2_with fail
  refine (l92Talk_any rb 0 w1 R1 (by omega)).mono ?_
  rintro e w2 ⟨n, t, a, xs, c2, rfl, lx2, _, _, o2, R2, g2⟩
  replace H2 := (g2.block w.heap.size (box_lt H2) (fun e => by injection e; omega)).trans H2
  obtain ⟨d0, d1, d2, e0, e1, e2⟩ := three_cells H2
  have z1 := b1.size
  go_wp2
  refine bodyPost_ret (v := .agg #[.int .i64 n, .int .i64 t, .slice a xs.length c2]) (by simp [results, Try.results15, go_sem, *]) rfl ?_
  refine ⟨n, t, a, xs, c2, rfl, lx2, own_cells (own_set (own_set (own_set o2 _ _ ?_) _ _ ?_) _ _ ?_), ?_⟩
  · simp at z1 ⊢; omega
  · simp at z1 ⊢; omega
  · simp at z1 ⊢; omega
  · have B2 := below_only (below_join B0.out b1) g2 (by omega)
    repeat' (first | exact Below.refl _ _ | exact Nat.le_refl _ | assumption | refine Below.drew ?_ | refine below_drewN ?_ _ | (refine Below.alloc ?_ (by first | exact Nat.le_refl _ | omega | (simp; done) | (simp; omega)) _) | (refine Below.setCell ?_ (by first | exact Nat.le_refl _ | omega | (simp; done) | (simp; omega)) _))
end Go.Proofs.Ytjamcfnclnpdkaa
