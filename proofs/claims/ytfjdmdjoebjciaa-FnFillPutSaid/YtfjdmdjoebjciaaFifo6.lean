/- Queues: filling: the reference's function. -/
import Derived.Test.YtfjdmdjoebjciaaFifo5
import Derived.Test.YtfjdmdjoebjciaaBox2
import Derived.Deep.Cut
namespace Go.Proofs.Ytfjdmdjoebjciaa
open Go.RowKit

theorem fill_end {w w' : World} {R : Int} {n m len B1 B2 : Nat} {xs ys : List Int} {aC aE : Option Addr} {dC dE : Nat} (hm : m = min n ys.length) (hl : len = ys.length - m)
    (o1 : w'.ownsRow B1 3 1 (.slice aC (xs.length + m) dC) (xs.length + m) (xs.map (Value.int .i64) ++ (ys.take m).map (Value.int .i64)))
    (o2 : w'.ownsRow B2 3 1 (.slice aE len dE) len ((ys.drop m).map (Value.int .i64))) (ap : Apart aC aE) (h1 : w.heap.size ≤ B1) (h2 : w.heap.size ≤ B2) (hb : Below w.heap.size w w') :
    FillP w ⟨R, xs ++ ys.take n, ys.drop n, true⟩ (.returned (.tuple #[.agg #[.int .i64 R, .slice aC (xs.length + m) dC], .slice aE len dE, .bool true])) w' := by
  have e1 : ys.take m = ys.take n := by
    rcases Nat.le_total n ys.length with h | h
    · rw [hm, Nat.min_eq_left h]
    · rw [hm, Nat.min_eq_right h, List.take_length, List.take_of_length_le h]
  have e2 : ys.drop m = ys.drop n := by
    rcases Nat.le_total n ys.length with h | h
    · rw [hm, Nat.min_eq_left h]
    · rw [hm, Nat.min_eq_right h, List.drop_length, List.drop_of_length_le h]
  have e3 : (xs ++ ys.take n).length = xs.length + m := by rw [← e1, List.length_append, List.length_take]; omega
  have e4 : (ys.drop n).length = len := by rw [← e2, List.length_drop]; omega
  refine ⟨aC, dC, aE, dE, ?_, ?_, ?_, ap, hb⟩
  · rw [e3, e4]
  · unfold OwnI
    rw [e3, List.map_append, ← e1]
    exact own_base o1 h1
  · unfold OwnI
    rw [e4, ← e2]
    exact own_base o2 h2

set_option maxHeartbeats 1000000 in
theorem specFifoFill_any (room : Int) (ao : Option Addr) (xs : List Int) (c : Nat) (bo : Option Addr) (ys : List Int) (d : Nat) (w : World) (hx : Ints w ao xs) (lx : xs.length ≤ 1048576) (hA : ao = none → xs.length = 0 ∧ c = 0) (hy : Ints w bo ys) (ly : ys.length ≤ 1048576) (hB : bo = none → ys.length = 0 ∧ d = 0) (hd : ys.length ≤ d) (hd2 : d ≤ 9223372036854775807) :
    Calls Try.prog 22 #[.agg #[.int .i64 room, .slice ao xs.length c], .slice bo ys.length d] w (FillP w (fillR room xs ys)) := by
  have HA := Lib.hid hA
  have HB := Lib.hid hB
  clear hA hB
  have b0 : Below w.heap.size w ((w.alloc (.cells #[.int .i64 room, .slice ao xs.length c] 25)).alloc (.cells #[.int .i64 0, .slice none 0 0] 25)) := ((Below.refl _ _).alloc (Nat.le_refl _) _).alloc (by simp) _
  have B0 := Lib.hid b0
  have hx0 := hx.below b0
  have hy0 := hy.below b0
  clear b0
  cases hv : fifoB room xs
  · have HR := Lib.hid (fillR_no (r := room) (xs := xs) (ys := ys) (by simp [fillB, hv]))
    rw [HR.out]
    clear hd hd2
    go_enter Try.func22, Try.ntmps22
    go_wp2_with fail
    refine (specFifoValid_any room ao xs c _ hx0 (by omega)).mono ?_
    rintro e w1 ⟨rfl, b1⟩
    have H2 := (b1.block _ (by simp only [World.size_alloc]; omega)).trans (box_alloc (heap_new_at w (.cells #[.int .i64 room, .slice ao xs.length c] 25) _ rfl) (.cells #[.int .i64 0, .slice none 0 0] 25))
    have H4 := (b1.block _ (by simp only [World.size_alloc]; omega)).trans (heap_new_at (w.alloc (.cells #[.int .i64 room, .slice ao xs.length c] 25)) (.cells #[.int .i64 0, .slice none 0 0] 25) (w.heap.size + 1) (by simp))
    have BB := below_join B0.out b1
    have zz := b1.size
    simp only [World.size_alloc] at zz
    obtain ⟨d0, d1, f0, f1⟩ := two_cells H4
    clear H2 H4
    have zz4 : w.heap.size + 1 < w1.heap.size := by omega
    go_wp2
    refine bodyPost_ret (v := .tuple #[.agg #[.int .i64 0, .slice none 0 0], .slice (some ⟨w1.heap.size, 0, none⟩) 0 0, .bool false]) (by simp [results, Try.results22, go_sem, *]) rfl ?_
    refine ⟨none, 0, _, 0, rfl, own_nil _ _, own_made_at _ #[] _ _ 0 _ _ (by simp) (by simp; omega) (by simp) rfl, apart_none _, ?_⟩
    repeat' (first | exact Below.refl _ _ | exact Nat.le_refl _ | assumption | refine Below.drew ?_ | refine below_drewN ?_ _ | (refine Below.alloc ?_ (by first | exact Nat.le_refl _ | omega | (simp; done) | (simp; omega)) _) | (refine Below.setCell ?_ (by first | exact Nat.le_refl _ | omega | (simp; done) | (simp; omega)) _))
  cases hb : bytesB ys
  · have HR := Lib.hid (fillR_no (r := room) (xs := xs) (ys := ys) (by simp [fillB, hb]))
    rw [HR.out]
    clear hd hd2
    go_enter Try.func22, Try.ntmps22
    go_wp2_with fail
    refine (specFifoValid_any room ao xs c _ hx0 (by omega)).mono ?_
    rintro e w1 ⟨rfl, b1⟩
    have H2 := (b1.block _ (by simp only [World.size_alloc]; omega)).trans (box_alloc (heap_new_at w (.cells #[.int .i64 room, .slice ao xs.length c] 25) _ rfl) (.cells #[.int .i64 0, .slice none 0 0] 25))
    have H4 := (b1.block _ (by simp only [World.size_alloc]; omega)).trans (heap_new_at (w.alloc (.cells #[.int .i64 room, .slice ao xs.length c] 25)) (.cells #[.int .i64 0, .slice none 0 0] 25) (w.heap.size + 1) (by simp))
    have BB := below_join B0.out b1
    have zz := b1.size
    simp only [World.size_alloc] at zz
    have hy1 : Ints w1 bo ys := hy0.below b1
    obtain ⟨d0, d1, f0, f1⟩ := two_cells H4
    have HH4 := Lib.hid H4
    clear H2 H4 d0 d1 f0 f1
    go_wp2_with fail
    refine (l4Bytes_any bo ys d w1 hy1 (by omega)).mono ?_
    rintro e w2 ⟨rfl, b2⟩
    obtain ⟨d0, d1, f0, f1⟩ := two_cells ((b2.block _ (by omega)).trans HH4.out)
    have z2 := b2.size
    replace BB := BB.trans (b2.mono BB.size)
    have zz4 : w.heap.size + 1 < w2.heap.size := by omega
    go_wp2
    refine bodyPost_ret (v := .tuple #[.agg #[.int .i64 0, .slice none 0 0], .slice (some ⟨w2.heap.size, 0, none⟩) 0 0, .bool false]) (by simp [results, Try.results22, go_sem, *]) rfl ?_
    refine ⟨none, 0, _, 0, rfl, own_nil _ _, own_made_at _ #[] _ _ 0 _ _ (by simp) (by simp; omega) (by simp) rfl, apart_none _, ?_⟩
    repeat' (first | exact Below.refl _ _ | exact Nat.le_refl _ | assumption | refine Below.drew ?_ | refine below_drewN ?_ _ | (refine Below.alloc ?_ (by first | exact Nat.le_refl _ | omega | (simp; done) | (simp; omega)) _) | (refine Below.setCell ?_ (by first | exact Nat.le_refl _ | omega | (simp; done) | (simp; omega)) _))
  by_cases hl : (40 : Int) < (ys.length : Int)
  · have HR := Lib.hid (fillR_no (r := room) (xs := xs) (ys := ys) (by simp [fillB]; intros; omega))
    rw [HR.out]
    clear hd hd2
    go_enter Try.func22, Try.ntmps22
    go_wp2_with fail
    refine (specFifoValid_any room ao xs c _ hx0 (by omega)).mono ?_
    rintro e w1 ⟨rfl, b1⟩
    have H2 := (b1.block _ (by simp only [World.size_alloc]; omega)).trans (box_alloc (heap_new_at w (.cells #[.int .i64 room, .slice ao xs.length c] 25) _ rfl) (.cells #[.int .i64 0, .slice none 0 0] 25))
    have H4 := (b1.block _ (by simp only [World.size_alloc]; omega)).trans (heap_new_at (w.alloc (.cells #[.int .i64 room, .slice ao xs.length c] 25)) (.cells #[.int .i64 0, .slice none 0 0] 25) (w.heap.size + 1) (by simp))
    have BB := below_join B0.out b1
    have zz := b1.size
    simp only [World.size_alloc] at zz
    have hy1 : Ints w1 bo ys := hy0.below b1
    obtain ⟨d0, d1, f0, f1⟩ := two_cells H4
    have HH4 := Lib.hid H4
    clear H2 H4 d0 d1 f0 f1
    go_wp2_with fail
    refine (l4Bytes_any bo ys d w1 hy1 (by omega)).mono ?_
    rintro e w2 ⟨rfl, b2⟩
    obtain ⟨d0, d1, f0, f1⟩ := two_cells ((b2.block _ (by omega)).trans HH4.out)
    have z2 := b2.size
    replace BB := BB.trans (b2.mono BB.size)
    have zz4 : w.heap.size + 1 < w2.heap.size := by omega
    go_wp2
    refine bodyPost_ret (v := .tuple #[.agg #[.int .i64 0, .slice none 0 0], .slice (some ⟨w2.heap.size, 0, none⟩) 0 0, .bool false]) (by simp [results, Try.results22, go_sem, *]) rfl ?_
    refine ⟨none, 0, _, 0, rfl, own_nil _ _, own_made_at _ #[] _ _ 0 _ _ (by simp) (by simp; omega) (by simp) rfl, apart_none _, ?_⟩
    repeat' (first | exact Below.refl _ _ | exact Nat.le_refl _ | assumption | refine Below.drew ?_ | refine below_drewN ?_ _ | (refine Below.alloc ?_ (by first | exact Nat.le_refl _ | omega | (simp; done) | (simp; omega)) _) | (refine Below.setCell ?_ (by first | exact Nat.le_refl _ | omega | (simp; done) | (simp; omega)) _))
  have hl2 : (ys.length : Int) ≤ 40 := by omega
  have hld : decide ((40 : Int) < (ys.length : Int)) = false := by simpa using hl2
  have ff := fifoB_facts hv
  obtain ⟨R, rfl⟩ : ∃ R : Nat, room = (R : Int) := Int.eq_ofNat_of_zero_le (by omega)
  have hr16 : R ≤ 16 := by omega
  have hr1 : 1 ≤ R := by omega
  have hlr : xs.length ≤ R := by omega
  have HR := Lib.hid (fillR_yes (r := (R : Int)) (xs := xs) (ys := ys) (by simp [fillB, hv, hb]; omega))
  have HN : Hid (fillN (R : Int) xs = R - xs.length) := Lib.hid (by simp [fillN])
  rw [HR.out, HN.out]
  clear ff hl HR HN
  obtain ⟨n, hn⟩ : ∃ n, n = R - xs.length := ⟨_, rfl⟩
  rw [← hn]
  have hnR : (R : Int) - (xs.length : Int) = (n : Int) := by omega
  have HNR := Lib.hid hnR
  clear hn
  go_enter Try.func22, Try.ntmps22
  go_wp2_with fail
  refine (specFifoValid_any (R : Int) ao xs c _ hx0 (by omega)).mono ?_
  rintro e w1 ⟨rfl, b1⟩
  have H2 := (b1.block _ (by simp only [World.size_alloc]; omega)).trans (box_alloc (heap_new_at w (.cells #[.int .i64 (R : Int), .slice ao xs.length c] 25) _ rfl) (.cells #[.int .i64 0, .slice none 0 0] 25))
  have H4 := (b1.block _ (by simp only [World.size_alloc]; omega)).trans (heap_new_at (w.alloc (.cells #[.int .i64 (R : Int), .slice ao xs.length c] 25)) (.cells #[.int .i64 0, .slice none 0 0] 25) (w.heap.size + 1) (by simp))
  have BB := below_join B0.out b1
  have zz := b1.size
  simp only [World.size_alloc] at zz
  have hx1 := hx0.below b1
  have hy1 := hy0.below b1
  clear b1 hx0 hy0
  go_wp2_with fail
  refine (l4Bytes_any bo ys d w1 hy1 (by omega)).mono ?_
  rintro e w2 ⟨rfl, b2⟩
  have z2 := b2.size
  have H42 := Lib.hid ((b2.block _ (by omega)).trans H4)
  have H22 := (b2.block _ (by omega)).trans H2
  obtain ⟨c0, c1⟩ := cells2 H22
  have B2 := BB.trans (b2.mono BB.size)
  have hx2 := hx1.below b2
  have hy2 := hy1.below b2
  clear H2 H4 H22 BB hx1 hy1 b2 hnR
  by_cases hmn : (ys.length : Int) ≤ (R : Int) - (xs.length : Int)
  · go_wp2_with fail
    have hmd : (ys.length : Nat) ≤ d := by omega
    have hm0 : (0 : Int) ≤ ((ys.length : Nat) : Int) := by omega
    have hmd1 : ((ys.length : Nat) : Int) ≤ (d : Int) := by omega
    have hmy : ys.length ≤ ys.length := by omega
    have HMY := Lib.hid (show ys.length = min n ys.length by have := HNR.out; omega)
    have HS := Lib.hid (fun (v : World) (hv : Below w2.heap.size w2 v) => (⟨(hv.cell (p := ⟨w.heap.size, 0, none⟩) (by simp; omega)).trans c0, (hv.cell (p := ⟨w.heap.size, 1, none⟩) (by simp; omega)).trans c1, hv⟩ : v.cell? ⟨w.heap.size, 0, none⟩ = some (.int .i64 (R : Int)) ∧ v.cell? ⟨w.heap.size, 1, none⟩ = some (.slice ao xs.length c) ∧ Below w2.heap.size w2 v))
    have hB1 : w2.heap.size ≤ w2.heap.size := Nat.le_refl _
    go_cut [8] from 33 (fun s8 wx => ∃ g aC dC, s8 = .pointer (some ⟨g, 0, none⟩) ∧ wx.heap[g]? = some (.cells #[.int .i64 (R : Int), .slice aC (xs.length + ys.length) dC] 25 (0, 0)) ∧ wx.ownsRow w2.heap.size 3 1 (.slice aC (xs.length + ys.length) dC) (xs.length + ys.length) (xs.map (Value.int .i64) ++ (ys.take (ys.length)).map (Value.int .i64)) ∧ Below w2.heap.size w2 wx ∧ w2.heap.size ≤ g)
    case first =>
      go_region_held3 (fun v => v.cell? ⟨w.heap.size, 0, none⟩ = some (.int .i64 (R : Int)) ∧ v.cell? ⟨w.heap.size, 1, none⟩ = some (.slice ao xs.length c) ∧ Below w2.heap.size w2 v)
        ((refine HS.out _ ?_; go_split_ands; repeat (first | assumption | exact Below.refl _ _ | refine Below.drew ?_ | refine below_allocB ?_ hB1 _ | refine Below.setCell ?_ (by first | (simp; done) | (simp; omega)) _)))
        (first
          | (refine step_append_row (by rfl) _ _ _ (by rfl) w2.heap.size 3 _ 1 8 Try.underlying23 int_info rfl (by decide) (some ⟨_, 0, none⟩) 0 0 [] (by rfl) ?ho ao xs.length c (xs.map (Value.int .i64)) (by rfl) ?hn (by simp) (ints_one _) HA.out (by simp only [maxLen]; omega) (by omega) ?hb ?_
             case ho => first | exact own_made_at _ #[] _ _ 0 _ _ rfl (by first | exact Nat.le_refl _ | (simp; done) | (simp; omega)) (by simp) rfl | exact World.ownsRow.alloc (own_made_at _ #[] _ _ 0 _ _ rfl (Nat.le_refl _) (by simp) rfl) _ | exact own_made_at _ #[] _ _ 0 _ _ (by simp) (by simp) (by simp) rfl
             case hn => (go_split_ands; exact ints_bel hx2 (by assumption))
             case hb => (go_split_ands; exact Below.size (by assumption))
             intro aA dA wA hoA hgA
             rw [Nat.zero_add, List.nil_append] at hoA
             rw [Nat.zero_add]
             have bA : Below w2.heap.size w2 wA := (by go_split_ands; exact below_growB (by assumption) hgA hB1 (fun k hk => by simp [Value.ownBlock] at hk; omega))
             have zA := bA.size
             first
               | have hA8 := box_grow (show (((w2.alloc (.cells #[.int .i64 0, .slice none 0 0] 25)).alloc (.cells #[] 3)).drew).heap[w2.heap.size]? = some (.cells #[.int .i64 0, .slice none 0 0] 25 (0, 0)) from box_alloc (heap_new_at w2 _ _ rfl) _) hgA (fun k hk => by simp [Value.ownBlock] at hk; omega)
               | have hA8 := box_grow (show (((w2.alloc (.cells #[] 3)).alloc (.cells #[.int .i64 0, .slice none 0 0] 25)).drew).heap[w2.heap.size + 1]? = some (.cells #[.int .i64 0, .slice none 0 0] 25 (0, 0)) from heap_new_at (w2.alloc _) _ _ (by simp)) hgA (fun k hk => by simp [Value.ownBlock] at hk; omega)
               | skip)
          | (refine step_append_row (by rfl) _ _ _ (by rfl) w2.heap.size 3 _ 1 8 Try.underlying23 int_info rfl (by decide) aA xs.length dA (xs.map (Value.int .i64)) (by rfl) ?ho bo ys.length d ((ys.take (ys.length)).map (Value.int .i64)) ?hv ?hn (by rw [List.length_map, List.length_take]; omega) (ints_one _) ?hz (by simp only [maxLen]; omega) (by omega) ?hb ?_
             case hv => first | rfl | (simp [Act.eval]; done)
             case hz => (intro e; have := HB.out e; omega)
             case ho => first | exact hoA | exact hoA.alloc _
             case hn => (go_split_ands; exact Ints.take (ints_bel hy2 (by assumption)) _)
             case hb => (go_split_ands; exact Below.size (by assumption))
             intro aC dC wC hoC hgC
             have bC : Below w2.heap.size w2 wC := (by go_split_ands; exact below_growB (by assumption) hgC hB1 (fun k hk => by have := (hoA.lt k hk).1; omega))
             have zC := bC.size
             first
               | (have hC8 := box_grow hA8 hgC (own_block_of (own_box_ne hoA hA8 (by decide))); obtain ⟨e0, e1, k0, k1⟩ := two_cells hC8)
               | (have hC8 := box_grow (b := wA.heap.size) (o := (.cells #[.int .i64 0, .slice none 0 0] 25 (0, 0))) (heap_new_at _ _ _ rfl) hgC (fun k hk => by have := (hoA.lt k hk).2; omega); obtain ⟨e0, e1, k0, k1⟩ := two_cells hC8)
               | skip))
      all_goals
        go_wp2
        go_meet
        case rel =>
          refine ⟨_, aC, dC, rfl, ?_, ?_, ?_, ?_⟩
          · first | exact two_set hC8 _ _ | exact two_set (heap_new_at wC _ _ rfl) _ _ | exact heap_new_at wC _ _ rfl
          · first
              | exact own_set_ne (own_set_ne hoC _ _ (own_box_ne hoC hC8 (by decide))) _ _ (own_box_ne hoC hC8 (by decide))
              | exact own_set_far (own_set_far hoC _ _ (Nat.le_refl _)) _ _ (by simp)
              | exact World.ownsRow.alloc hoC _
          · repeat (first | assumption | exact Below.refl _ _ | refine Below.drew ?_ | refine below_allocB ?_ hB1 _ | refine Below.setCell ?_ (by first | (simp; done) | (simp; omega)) _)
          · omega
    case rest =>
      obtain ⟨g, aC, dC, rfl, Hg, hoC, bC, hgz⟩ := hcut
      obtain ⟨e0, e1⟩ := cells2 Hg
      have H4c := (bC.block _ (by omega)).trans H42.out
      obtain ⟨k0, k1, k2, k3⟩ := two_cells H4c
      have zc := bC.size
      have Bc := B2.trans (bC.mono B2.size)
      have hyc : Ints wc bo ys := ints_bel hy Bc
      have hgb := box_lt Hg
      have H4C := Lib.hid H4c
      clear Hg H4c HS hx hx2 hy2 bC B2 H42 c0 c1 hB1
      have HT := Lib.hid (fun (v : World) (hv : wc.grownBy v (some (w.heap.size + 1))) => (⟨hv.cell e0 (by simp; omega), hv.cell e1 (by simp; omega), hv⟩ : v.cell? ⟨g, 0, none⟩ = some (.int .i64 (R : Int)) ∧ v.cell? ⟨g, 1, none⟩ = some (.slice aC (xs.length + ys.length) dC) ∧ wc.grownBy v (some (w.heap.size + 1))))
      by_cases hdm : d = ys.length
      · have HNW := Lib.hid (fun v (_ : wc.grownBy v (some (w.heap.size + 1))) => show Cells v bo ((ys.drop (ys.length)).map (Value.int .i64)) by rw [List.drop_of_length_le (by omega)]; exact .inl rfl)
        have hly : ys.length - ys.length = 0 := by omega
        go_wp2_with fail
        go_region_held3 (fun v => v.cell? ⟨g, 0, none⟩ = some (.int .i64 (R : Int)) ∧ v.cell? ⟨g, 1, none⟩ = some (.slice aC (xs.length + ys.length) dC) ∧ wc.grownBy v (some (w.heap.size + 1)))
          ((refine HT.out _ ?_; go_split_ands; repeat (first | assumption | exact only_refl _ _ | refine only_drew ?_ | refine only_alloc ?_ _ | refine only_setR ?_ _ _)))
          (first
            | (refine step_append_row (by rfl) _ _ _ (by rfl) wc.heap.size 3 _ 1 8 Try.underlying23 int_info rfl (by decide) (some ⟨_, 0, none⟩) 0 0 [] (by rfl) ?ho (bo) (0) (0) ((ys.drop (ys.length)).map (Value.int .i64)) ?hv ?hn (by rw [List.length_map, List.length_drop]; omega) (ints_one _) ?hz (by simp only [maxLen]; omega) (by omega) ?hb ?_
               case hv => first | rfl | (simp [Act.eval]; done)
               case hz => (intro e; first | exact ⟨rfl, rfl⟩ | cases e)
               case ho => exact own_made_at _ #[] _ _ 0 _ _ rfl (by first | exact Nat.le_refl _ | (simp; done) | (simp; omega)) (by simp) rfl
               case hn => (go_split_ands; exact HNW.out _ (by assumption))
               case hb => (go_split_ands; exact World.grownBy.size (by assumption))
               intro aE dE wE hoE hgE
               rw [List.nil_append] at hoE
               rw [Nat.zero_add]
               rw [Nat.zero_add] at hoE
               have gE : wc.grownBy wE (some (w.heap.size + 1)) := (by go_split_ands; exact only_grown (by assumption) hgE (fun k hk => by simp [Value.ownBlock] at hk; omega))
               have zE := gE.size
               obtain ⟨q0, q1, q2, q3⟩ := two_cells (box_grow (show ((wc.alloc (.cells #[] 3)).drew).heap[w.heap.size + 1]? = _ from box_alloc H4C.out _) hgE (fun k hk => by simp [Value.ownBlock] at hk; omega))))
        go_wp2
        refine bodyPost_ret (v := .tuple #[.agg #[.int .i64 (R : Int), .slice aC (xs.length + ys.length) dC], .slice aE (0) dE, .bool true]) (by simp [results, Try.results22, go_sem, *]) rfl ?_
        have BE := Bc.size
        have gF : wc.grownBy ((wE.setCell ⟨w.heap.size + 1, 0, none⟩ (.int .i64 (R : Int))).setCell ⟨w.heap.size + 1, 1, none⟩ (.slice aC (xs.length + ys.length) dC)) (some (w.heap.size + 1)) := only_setR (only_setR gE _ _) _ _
        refine fill_end HMY.out (by omega) (own_only hoC gF (fun q hq => by have := (own_in hoC _ hq).1; simp at this; omega)) (own_set (own_set hoE _ _ (by simp; omega)) _ _ (by simp; omega)) ((own_in hoC).apart (own_in hoE) (.inl (Nat.le_refl _))) (by omega) (by omega) ?_
        exact ⟨gF.os.trans Bc.os, gF.tape.trans Bc.tape, gF.output.trans Bc.output, Nat.le_trans Bc.size gF.size, fun i hi => (gF.block i (by omega) (fun e => by injection e; omega)).trans (Bc.block i hi)⟩
      · cases bo with
        | none => exact absurd (HB.out rfl).2 (by have := HB.out rfl; omega)
        | some ad =>
          have HNW := Lib.hid (fun v (g : wc.grownBy v (some (w.heap.size + 1))) => ints_dropA (ints_far hy Bc g (by omega)) (ys.length))
          go_wp2_with fail
          go_region_held3 (fun v => v.cell? ⟨g, 0, none⟩ = some (.int .i64 (R : Int)) ∧ v.cell? ⟨g, 1, none⟩ = some (.slice aC (xs.length + ys.length) dC) ∧ wc.grownBy v (some (w.heap.size + 1)))
            ((refine HT.out _ ?_; go_split_ands; repeat (first | assumption | exact only_refl _ _ | refine only_drew ?_ | refine only_alloc ?_ _ | refine only_setR ?_ _ _)))
            (first
              | (refine step_append_row (by rfl) _ _ _ (by rfl) wc.heap.size 3 _ 1 8 Try.underlying23 int_info rfl (by decide) (some ⟨_, 0, none⟩) 0 0 [] (by rfl) ?ho (some (ad.add (ys.length))) (ys.length - ys.length) (d - ys.length) ((ys.drop (ys.length)).map (Value.int .i64)) ?hv ?hn (by rw [List.length_map, List.length_drop]; omega) (ints_one _) ?hz (by simp only [maxLen]; omega) (by omega) ?hb ?_
                 case hv => first | rfl | (simp [Act.eval]; done)
                 case hz => (intro e; first | exact ⟨rfl, rfl⟩ | cases e)
                 case ho => exact own_made_at _ #[] _ _ 0 _ _ rfl (by first | exact Nat.le_refl _ | (simp; done) | (simp; omega)) (by simp) rfl
                 case hn => (go_split_ands; exact HNW.out _ (by assumption))
                 case hb => (go_split_ands; exact World.grownBy.size (by assumption))
                 intro aE dE wE hoE hgE
                 rw [List.nil_append] at hoE
                 rw [Nat.zero_add]
                 rw [Nat.zero_add] at hoE
                 have gE : wc.grownBy wE (some (w.heap.size + 1)) := (by go_split_ands; exact only_grown (by assumption) hgE (fun k hk => by simp [Value.ownBlock] at hk; omega))
                 have zE := gE.size
                 obtain ⟨q0, q1, q2, q3⟩ := two_cells (box_grow (show ((wc.alloc (.cells #[] 3)).drew).heap[w.heap.size + 1]? = _ from box_alloc H4C.out _) hgE (fun k hk => by simp [Value.ownBlock] at hk; omega))))
          go_wp2
          refine bodyPost_ret (v := .tuple #[.agg #[.int .i64 (R : Int), .slice aC (xs.length + ys.length) dC], .slice aE (ys.length - ys.length) dE, .bool true]) (by simp [results, Try.results22, go_sem, *]) rfl ?_
          have BE := Bc.size
          have gF : wc.grownBy ((wE.setCell ⟨w.heap.size + 1, 0, none⟩ (.int .i64 (R : Int))).setCell ⟨w.heap.size + 1, 1, none⟩ (.slice aC (xs.length + ys.length) dC)) (some (w.heap.size + 1)) := only_setR (only_setR gE _ _) _ _
          refine fill_end HMY.out (by omega) (own_only hoC gF (fun q hq => by have := (own_in hoC _ hq).1; simp at this; omega)) (own_set (own_set hoE _ _ (by simp; omega)) _ _ (by simp; omega)) ((own_in hoC).apart (own_in hoE) (.inl (Nat.le_refl _))) (by omega) (by omega) ?_
          exact ⟨gF.os.trans Bc.os, gF.tape.trans Bc.tape, gF.output.trans Bc.output, Nat.le_trans Bc.size gF.size, fun i hi => (gF.block i (by omega) (fun e => by injection e; omega)).trans (Bc.block i hi)⟩
  · have hmn' : (R : Int) - (xs.length : Int) < (ys.length : Int) := by omega
    clear hmn
    go_wp2_with fail
    rw [HNR.out]
    have HNQ := HNR.out
    have hmd : (n : Nat) ≤ d := by omega
    have hm0 : (0 : Int) ≤ ((n : Nat) : Int) := by omega
    have hmd1 : ((n : Nat) : Int) ≤ (d : Int) := by omega
    have hmy : n ≤ ys.length := by omega
    have HMY := Lib.hid (show n = min n ys.length by have := HNR.out; omega)
    have HS := Lib.hid (fun (v : World) (hv : Below w2.heap.size w2 v) => (⟨(hv.cell (p := ⟨w.heap.size, 0, none⟩) (by simp; omega)).trans c0, (hv.cell (p := ⟨w.heap.size, 1, none⟩) (by simp; omega)).trans c1, hv⟩ : v.cell? ⟨w.heap.size, 0, none⟩ = some (.int .i64 (R : Int)) ∧ v.cell? ⟨w.heap.size, 1, none⟩ = some (.slice ao xs.length c) ∧ Below w2.heap.size w2 v))
    have hB1 : w2.heap.size ≤ w2.heap.size := Nat.le_refl _
    go_cut [8] from 33 (fun s8 wx => ∃ g aC dC, s8 = .pointer (some ⟨g, 0, none⟩) ∧ wx.heap[g]? = some (.cells #[.int .i64 (R : Int), .slice aC (xs.length + n) dC] 25 (0, 0)) ∧ wx.ownsRow w2.heap.size 3 1 (.slice aC (xs.length + n) dC) (xs.length + n) (xs.map (Value.int .i64) ++ (ys.take (n)).map (Value.int .i64)) ∧ Below w2.heap.size w2 wx ∧ w2.heap.size ≤ g)
    case first =>
      go_region_held3 (fun v => v.cell? ⟨w.heap.size, 0, none⟩ = some (.int .i64 (R : Int)) ∧ v.cell? ⟨w.heap.size, 1, none⟩ = some (.slice ao xs.length c) ∧ Below w2.heap.size w2 v)
        ((refine HS.out _ ?_; go_split_ands; repeat (first | assumption | exact Below.refl _ _ | refine Below.drew ?_ | refine below_allocB ?_ hB1 _ | refine Below.setCell ?_ (by first | (simp; done) | (simp; omega)) _)))
        (first
          | (refine step_append_row (by rfl) _ _ _ (by rfl) w2.heap.size 3 _ 1 8 Try.underlying23 int_info rfl (by decide) (some ⟨_, 0, none⟩) 0 0 [] (by rfl) ?ho ao xs.length c (xs.map (Value.int .i64)) (by rfl) ?hn (by simp) (ints_one _) HA.out (by simp only [maxLen]; omega) (by omega) ?hb ?_
             case ho => first | exact own_made_at _ #[] _ _ 0 _ _ rfl (by first | exact Nat.le_refl _ | (simp; done) | (simp; omega)) (by simp) rfl | exact World.ownsRow.alloc (own_made_at _ #[] _ _ 0 _ _ rfl (Nat.le_refl _) (by simp) rfl) _ | exact own_made_at _ #[] _ _ 0 _ _ (by simp) (by simp) (by simp) rfl
             case hn => (go_split_ands; exact ints_bel hx2 (by assumption))
             case hb => (go_split_ands; exact Below.size (by assumption))
             intro aA dA wA hoA hgA
             rw [Nat.zero_add, List.nil_append] at hoA
             rw [Nat.zero_add]
             have bA : Below w2.heap.size w2 wA := (by go_split_ands; exact below_growB (by assumption) hgA hB1 (fun k hk => by simp [Value.ownBlock] at hk; omega))
             have zA := bA.size
             first
               | have hA8 := box_grow (show (((w2.alloc (.cells #[.int .i64 0, .slice none 0 0] 25)).alloc (.cells #[] 3)).drew).heap[w2.heap.size]? = some (.cells #[.int .i64 0, .slice none 0 0] 25 (0, 0)) from box_alloc (heap_new_at w2 _ _ rfl) _) hgA (fun k hk => by simp [Value.ownBlock] at hk; omega)
               | have hA8 := box_grow (show (((w2.alloc (.cells #[] 3)).alloc (.cells #[.int .i64 0, .slice none 0 0] 25)).drew).heap[w2.heap.size + 1]? = some (.cells #[.int .i64 0, .slice none 0 0] 25 (0, 0)) from heap_new_at (w2.alloc _) _ _ (by simp)) hgA (fun k hk => by simp [Value.ownBlock] at hk; omega)
               | skip)
          | (refine step_append_row (by rfl) _ _ _ (by rfl) w2.heap.size 3 _ 1 8 Try.underlying23 int_info rfl (by decide) aA xs.length dA (xs.map (Value.int .i64)) (by rfl) ?ho bo n d ((ys.take (n)).map (Value.int .i64)) ?hv ?hn (by rw [List.length_map, List.length_take]; omega) (ints_one _) ?hz (by simp only [maxLen]; omega) (by omega) ?hb ?_
             case hv => first | rfl | (simp [Act.eval]; done)
             case hz => (intro e; have := HB.out e; omega)
             case ho => first | exact hoA | exact hoA.alloc _
             case hn => (go_split_ands; exact Ints.take (ints_bel hy2 (by assumption)) _)
             case hb => (go_split_ands; exact Below.size (by assumption))
             intro aC dC wC hoC hgC
             have bC : Below w2.heap.size w2 wC := (by go_split_ands; exact below_growB (by assumption) hgC hB1 (fun k hk => by have := (hoA.lt k hk).1; omega))
             have zC := bC.size
             first
               | (have hC8 := box_grow hA8 hgC (own_block_of (own_box_ne hoA hA8 (by decide))); obtain ⟨e0, e1, k0, k1⟩ := two_cells hC8)
               | (have hC8 := box_grow (b := wA.heap.size) (o := (.cells #[.int .i64 0, .slice none 0 0] 25 (0, 0))) (heap_new_at _ _ _ rfl) hgC (fun k hk => by have := (hoA.lt k hk).2; omega); obtain ⟨e0, e1, k0, k1⟩ := two_cells hC8)
               | skip))
      all_goals
        go_wp2
        go_meet
        case rel =>
          refine ⟨_, aC, dC, rfl, ?_, ?_, ?_, ?_⟩
          · first | exact two_set hC8 _ _ | exact two_set (heap_new_at wC _ _ rfl) _ _ | exact heap_new_at wC _ _ rfl
          · first
              | exact own_set_ne (own_set_ne hoC _ _ (own_box_ne hoC hC8 (by decide))) _ _ (own_box_ne hoC hC8 (by decide))
              | exact own_set_far (own_set_far hoC _ _ (Nat.le_refl _)) _ _ (by simp)
              | exact World.ownsRow.alloc hoC _
          · repeat (first | assumption | exact Below.refl _ _ | refine Below.drew ?_ | refine below_allocB ?_ hB1 _ | refine Below.setCell ?_ (by first | (simp; done) | (simp; omega)) _)
          · omega
    case rest =>
      obtain ⟨g, aC, dC, rfl, Hg, hoC, bC, hgz⟩ := hcut
      obtain ⟨e0, e1⟩ := cells2 Hg
      have H4c := (bC.block _ (by omega)).trans H42.out
      obtain ⟨k0, k1, k2, k3⟩ := two_cells H4c
      have zc := bC.size
      have Bc := B2.trans (bC.mono B2.size)
      have hyc : Ints wc bo ys := ints_bel hy Bc
      have hgb := box_lt Hg
      have H4C := Lib.hid H4c
      clear Hg H4c HS hx hx2 hy2 bC B2 H42 c0 c1 hB1
      have HT := Lib.hid (fun (v : World) (hv : wc.grownBy v (some (w.heap.size + 1))) => (⟨hv.cell e0 (by simp; omega), hv.cell e1 (by simp; omega), hv⟩ : v.cell? ⟨g, 0, none⟩ = some (.int .i64 (R : Int)) ∧ v.cell? ⟨g, 1, none⟩ = some (.slice aC (xs.length + n) dC) ∧ wc.grownBy v (some (w.heap.size + 1))))
      by_cases hdm : d = n
      · have HNW := Lib.hid (fun v (_ : wc.grownBy v (some (w.heap.size + 1))) => show Cells v bo ((ys.drop (n)).map (Value.int .i64)) by rw [List.drop_of_length_le (by omega)]; exact .inl rfl)
        have hly : ys.length - n = 0 := by omega
        go_wp2_with fail
        go_region_held3 (fun v => v.cell? ⟨g, 0, none⟩ = some (.int .i64 (R : Int)) ∧ v.cell? ⟨g, 1, none⟩ = some (.slice aC (xs.length + n) dC) ∧ wc.grownBy v (some (w.heap.size + 1)))
          ((refine HT.out _ ?_; go_split_ands; repeat (first | assumption | exact only_refl _ _ | refine only_drew ?_ | refine only_alloc ?_ _ | refine only_setR ?_ _ _)))
          (first
            | (refine step_append_row (by rfl) _ _ _ (by rfl) wc.heap.size 3 _ 1 8 Try.underlying23 int_info rfl (by decide) (some ⟨_, 0, none⟩) 0 0 [] (by rfl) ?ho (bo) (0) (0) ((ys.drop (n)).map (Value.int .i64)) ?hv ?hn (by rw [List.length_map, List.length_drop]; omega) (ints_one _) ?hz (by simp only [maxLen]; omega) (by omega) ?hb ?_
               case hv => first | rfl | (simp [Act.eval]; done)
               case hz => (intro e; first | exact ⟨rfl, rfl⟩ | cases e)
               case ho => exact own_made_at _ #[] _ _ 0 _ _ rfl (by first | exact Nat.le_refl _ | (simp; done) | (simp; omega)) (by simp) rfl
               case hn => (go_split_ands; exact HNW.out _ (by assumption))
               case hb => (go_split_ands; exact World.grownBy.size (by assumption))
               intro aE dE wE hoE hgE
               rw [List.nil_append] at hoE
               rw [Nat.zero_add]
               rw [Nat.zero_add] at hoE
               have gE : wc.grownBy wE (some (w.heap.size + 1)) := (by go_split_ands; exact only_grown (by assumption) hgE (fun k hk => by simp [Value.ownBlock] at hk; omega))
               have zE := gE.size
               obtain ⟨q0, q1, q2, q3⟩ := two_cells (box_grow (show ((wc.alloc (.cells #[] 3)).drew).heap[w.heap.size + 1]? = _ from box_alloc H4C.out _) hgE (fun k hk => by simp [Value.ownBlock] at hk; omega))))
        go_wp2
        refine bodyPost_ret (v := .tuple #[.agg #[.int .i64 (R : Int), .slice aC (xs.length + n) dC], .slice aE (0) dE, .bool true]) (by simp [results, Try.results22, go_sem, *]) rfl ?_
        have BE := Bc.size
        have gF : wc.grownBy ((wE.setCell ⟨w.heap.size + 1, 0, none⟩ (.int .i64 (R : Int))).setCell ⟨w.heap.size + 1, 1, none⟩ (.slice aC (xs.length + n) dC)) (some (w.heap.size + 1)) := only_setR (only_setR gE _ _) _ _
        refine fill_end HMY.out (by omega) (own_only hoC gF (fun q hq => by have := (own_in hoC _ hq).1; simp at this; omega)) (own_set (own_set hoE _ _ (by simp; omega)) _ _ (by simp; omega)) ((own_in hoC).apart (own_in hoE) (.inl (Nat.le_refl _))) (by omega) (by omega) ?_
        exact ⟨gF.os.trans Bc.os, gF.tape.trans Bc.tape, gF.output.trans Bc.output, Nat.le_trans Bc.size gF.size, fun i hi => (gF.block i (by omega) (fun e => by injection e; omega)).trans (Bc.block i hi)⟩
      · cases bo with
        | none => exact absurd (HB.out rfl).2 (by have := HB.out rfl; omega)
        | some ad =>
          have HNW := Lib.hid (fun v (g : wc.grownBy v (some (w.heap.size + 1))) => ints_dropA (ints_far hy Bc g (by omega)) (n))
          go_wp2_with fail
          go_region_held3 (fun v => v.cell? ⟨g, 0, none⟩ = some (.int .i64 (R : Int)) ∧ v.cell? ⟨g, 1, none⟩ = some (.slice aC (xs.length + n) dC) ∧ wc.grownBy v (some (w.heap.size + 1)))
            ((refine HT.out _ ?_; go_split_ands; repeat (first | assumption | exact only_refl _ _ | refine only_drew ?_ | refine only_alloc ?_ _ | refine only_setR ?_ _ _)))
            (first
              | (refine step_append_row (by rfl) _ _ _ (by rfl) wc.heap.size 3 _ 1 8 Try.underlying23 int_info rfl (by decide) (some ⟨_, 0, none⟩) 0 0 [] (by rfl) ?ho (some (ad.add (n))) (ys.length - n) (d - n) ((ys.drop (n)).map (Value.int .i64)) ?hv ?hn (by rw [List.length_map, List.length_drop]; omega) (ints_one _) ?hz (by simp only [maxLen]; omega) (by omega) ?hb ?_
                 case hv => first | rfl | (simp [Act.eval]; done)
                 case hz => (intro e; first | exact ⟨rfl, rfl⟩ | cases e)
                 case ho => exact own_made_at _ #[] _ _ 0 _ _ rfl (by first | exact Nat.le_refl _ | (simp; done) | (simp; omega)) (by simp) rfl
                 case hn => (go_split_ands; exact HNW.out _ (by assumption))
                 case hb => (go_split_ands; exact World.grownBy.size (by assumption))
                 intro aE dE wE hoE hgE
                 rw [List.nil_append] at hoE
                 rw [Nat.zero_add]
                 rw [Nat.zero_add] at hoE
                 have gE : wc.grownBy wE (some (w.heap.size + 1)) := (by go_split_ands; exact only_grown (by assumption) hgE (fun k hk => by simp [Value.ownBlock] at hk; omega))
                 have zE := gE.size
                 obtain ⟨q0, q1, q2, q3⟩ := two_cells (box_grow (show ((wc.alloc (.cells #[] 3)).drew).heap[w.heap.size + 1]? = _ from box_alloc H4C.out _) hgE (fun k hk => by simp [Value.ownBlock] at hk; omega))))
          go_wp2
          refine bodyPost_ret (v := .tuple #[.agg #[.int .i64 (R : Int), .slice aC (xs.length + n) dC], .slice aE (ys.length - n) dE, .bool true]) (by simp [results, Try.results22, go_sem, *]) rfl ?_
          have BE := Bc.size
          have gF : wc.grownBy ((wE.setCell ⟨w.heap.size + 1, 0, none⟩ (.int .i64 (R : Int))).setCell ⟨w.heap.size + 1, 1, none⟩ (.slice aC (xs.length + n) dC)) (some (w.heap.size + 1)) := only_setR (only_setR gE _ _) _ _
          refine fill_end HMY.out (by omega) (own_only hoC gF (fun q hq => by have := (own_in hoC _ hq).1; simp at this; omega)) (own_set (own_set hoE _ _ (by simp; omega)) _ _ (by simp; omega)) ((own_in hoC).apart (own_in hoE) (.inl (Nat.le_refl _))) (by omega) (by omega) ?_
          exact ⟨gF.os.trans Bc.os, gF.tape.trans Bc.tape, gF.output.trans Bc.output, Nat.le_trans Bc.size gF.size, fun i hi => (gF.block i (by omega) (fun e => by injection e; omega)).trans (Bc.block i hi)⟩
theorem specFifoFill_x (r : Int) (a : Option Addr) (z : List Int) (c B : Nat) (b : Option Addr) (y : List Int) (d B2 : Nat) (w : World) (o : OwnI w B a c z) (l : z.length ≤ 1048576) (o2 : OwnI w B2 b d y) (l2 : y.length ≤ 1048576) :
    Calls Try.prog 22 #[.agg #[.int .i64 r, .slice a z.length c], .slice b y.length d] w (FillP w (fillR r z y)) := specFifoFill_any r a z c b y d w o.ints l (own_nilcap o) o2.ints l2 (own_nilcap o2) (own_cap o2) (own_capmax o2)
theorem implFifoFill_x (r : Int) (a : Option Addr) (z : List Int) (c B : Nat) (b : Option Addr) (y : List Int) (d B2 : Nat) (w : World) (o : OwnI w B a c z) (l : z.length ≤ 1048576) (o2 : OwnI w B2 b d y) (l2 : y.length ≤ 1048576) :
    Calls Try.prog 21 #[.agg #[.int .i64 r, .slice a z.length c], .slice b y.length d] w (FillP w (fillR r z y)) := implFifoFill_any r a z c b y d w o.ints l o2.ints l2
end Go.Proofs.Ytfjdmdjoebjciaa
