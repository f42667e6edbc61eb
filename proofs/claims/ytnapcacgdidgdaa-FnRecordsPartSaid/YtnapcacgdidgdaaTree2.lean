/- Records: the tree of a list; what lies between two times: the program's function. -/
import Derived.Test.YtnapcacgdidgdaaTree
namespace Go.Proofs.Ytnapcacgdidgdaa
open Go.RowKit

theorem own_nilcap {w : World} {base e size n c : Nat} {ao : Option Addr} {vs : List Value} (h : w.ownsRow base e size (.slice ao n c) n vs) : ao = none → n = 0 ∧ c = 0 := by
  rintro rfl
  rcases h.2 with ⟨hv, h0⟩ | ⟨g, cap, cur, hv, _⟩
  · injection hv with _ h1 h2
    exact ⟨h1, h2⟩
  · injection hv with hv; cases hv
theorem recs_one (rs : List Rec) : ∀ u ∈ rs.flatMap recCells, u.oneCell' = true := by
  intro u hu
  obtain ⟨r, _, h⟩ := List.mem_flatMap.1 hu
  simp [recCells] at h
  rcases h with rfl | rfl | rfl <;> rfl
theorem betG_cons (lo hi t : Int) (rs : List Rec) (G : List (Int × List Rec)) : betG lo hi ((t, rs) :: G) = (if lo ≤ t ∧ t < hi then rs else []) ++ (if t < hi then betG lo hi G else []) := rfl
set_option maxHeartbeats 1000000 in
theorem treeOf_any (ao : Option Addr) (rs : List Rec) (c : Nat) (w : World) (hx : Recs w ao rs) (hs : SortedR rs) (lx : rs.length ≤ 1000) :
    Calls Try.prog 36 #[.slice ao rs.length c] w fun e w' => ∃ p, e = .returned (.pointer p) ∧ Spine w' w.heap.size w'.heap.size p (groupsOf rs) ∧ Below w.heap.size w w' := by
  have HS := Lib.hid hs
  clear hs
  go_enter Try.func36, Try.ntmps36
  go_wp2
  go_loopw [3, 8] (fun v i wr => ∃ (k : Nat) (p : Option Addr), k ≤ rs.length ∧ i = .int .i64 k ∧ v = .pointer p ∧ Spine wr w.heap.size wr.heap.size p (groupsOf (rs.take k)) ∧ Below w.heap.size w wr) (fun _ i _ => rs.length - (intOf i).toNat)
  case atStart => exact ⟨0, none, Nat.zero_le _, rfl, rfl, ⟨rfl, Nat.le_refl _⟩, Below.refl _ _⟩
  case round =>
    obtain ⟨k, p, hk, rfl, rfl, hsp, hb⟩ := hrel
    by_cases hlt : k < rs.length
    · obtain ⟨b, off, ⟨t, x, y⟩, rfl, er, _, x0, x1, x2⟩ := (hx.below hb).at_ hlt
      have ER := Lib.hid er
      clear er hx
      dsimp only at x0 x1 x2
      have hg := groups_ok HS.out k hk
      have hmx := hg.2.2 _ ER.out
      have hgl : (flatG (groupsOf (rs.take k))).length ≤ 1000 := by rw [hg.2.1, List.length_take]; omega
      have HG := Lib.hid hg.1
      have HM := Lib.hid hmx
      clear hg hmx
      go_wp2_with fail
      refine name_calls fun W hW => ?_
      have bW : Below wr.heap.size wr W := by rw [hW]; exact (Below.refl _ _).alloc (Nat.le_refl _) _
      clear hW x0 x1 x2
      refine (put_any t x y _ _ _ p W ((hsp.below bW).up bW.size) HG.out HM.out hgl).mono ?_
      rintro e w2 ⟨p', rfl, hs2, b2⟩
      have hb2 := (hb.trans (bW.mono hb.size)).trans b2
      go_wp2
      go_roundw
      case rel => exact ⟨k + 1, p', by omega, by go_num, rfl, by rw [take_succ_of ER.out, groups_snoc]; exact hs2, hb2⟩
      case measure => simp [intOf]; omega
    · have he : k = rs.length := by omega
      subst he
      rw [List.take_length] at hsp
      go_wp2
      go_ret
      exact ⟨p, rfl, hsp, hb⟩
theorem between_nil (a : Option Addr) (n c : Nat) (lo hi : Int) (w : World) :
    Calls Try.prog 37 #[.pointer none, .slice a n c, .int .i64 lo, .int .i64 hi] w fun e w' => e = .returned (.slice a n c) ∧ w = w' := by
  go_enter Try.func37, Try.ntmps37
  go_wp2
  go_ret
  exact ⟨rfl, rfl⟩
set_option maxHeartbeats 1000000 in
set_option maxRecDepth 100000 in
theorem between_any (lo hi : Int) (G : List (Int × List Rec)) : ∀ (B B2 : Nat) (p a : Option Addr) (L : List Rec) (c : Nat) (w : World), Spine w B B2 p G → OwnR w B2 a c L → B2 ≤ w.heap.size → L.length + (flatG G).length ≤ 1000 →
    Calls Try.prog 37 #[.pointer p, .slice a L.length c, .int .i64 lo, .int .i64 hi] w fun e w' => ∃ a' c', e = .returned (.slice a' (L ++ betG lo hi G).length c') ∧ OwnR w' B2 a' c' (L ++ betG lo hi G) ∧ Below B2 w w' := by
  induction G with
  | nil =>
    intro B B2 p a L c w hs ho hB hl
    obtain ⟨rfl, _⟩ := hs
    refine (between_nil a L.length c lo hi w).mono ?_
    rintro e w' ⟨rfl, rfl⟩
    exact ⟨a, c, by simp [betG], by simpa [betG] using ho, Below.refl _ _⟩
  | cons g0 G ih =>
    intro B B2 p a L c w hs ho hB hl
    obtain ⟨t, rs⟩ := g0
    obtain ⟨b, ar, cr, q, mid, rfl, h1, h2, h3, h4, h5, h6⟩ := hs
    have IH := Lib.hid ih
    clear ih
    rw [flatG_cons, List.length_append] at hl
    have hmB := h6.le
    have hbB : b < B2 := by omega
    have H4 := Lib.hid h4
    have HN := Lib.hid (own_nilcap h5)
    have H5 := Lib.hid h5
    have h3' : ∀ z, ar = some z → z.block < B2 := fun z hz => by have := h3 z hz; omega
    have H3 := Lib.hid h3'
    obtain ⟨c0, c1, c2, c3⟩ := cells4 h4
    clear h4 h5 h3 h3'
    by_cases hA : lo ≤ t
    · by_cases hT : t < hi
      · have hbe : L ++ betG lo hi ((t, rs) :: G) = L ++ (rs ++ betG lo hi G) := by rw [betG_cons, if_pos ⟨hA, hT⟩, if_pos hT]
        obtain ⟨M, hM⟩ : ∃ M, M = L ++ rs := ⟨_, rfl⟩
        rw [← List.append_assoc, ← hM] at hbe
        have HBE := Lib.hid hbe
        have HM1 := Lib.hid (show L.length + rs.length = M.length by rw [hM, List.length_append])
        have HM2 := Lib.hid (show L.flatMap recCells ++ rs.flatMap recCells = M.flatMap recCells by rw [hM, List.flatMap_append])
        clear hbe hM
        go_enter Try.func37, Try.ntmps37
        go_wp2_with fail
        refine (between_nil a L.length c lo hi w).mono ?_
        rintro e w' ⟨rfl, rfl⟩
        go_wp2_with (
          at_builtin
          refine wpList_append_row w rfl _ _ _ rfl B2 27 _ 3 24 Try.underlying23 rec_info rfl (by decide) a L.length c (L.flatMap recCells) (by rfl) ho ar rs.length cr (rs.flatMap recCells) (by rfl) (own_cells H5.out) (flatN_length recCells 3 recCells_length rs) (recs_one rs) HN.out (by simp only [maxLen]; omega) (by omega) hB ?_
          intro a7 c7 w7 ho7 hg7
          have hgB : ∀ k, (Value.slice a L.length c).ownBlock = some k → B2 ≤ k := fun k hk => (ho.lt k hk).1
          have b7 : Below B2 w w7 := (Below.refl B2 w).grown hg7 hB hgB
          have hH7 := (b7.block b hbB).trans H4.out
          obtain ⟨e0, e1, e2, e3⟩ := cells4 hH7
          rw [HM1.out, HM2.out] at ho7
          have o7 : OwnR w7 B2 a7 c7 M := ho7
          rw [HM1.out]
          clear ho7 hg7 hgB hH7)
        refine (IH.out mid B2 q a7 M c7 w7 (h6.below b7) o7 (Nat.le_trans hB b7.size) (by have := HM1.out; omega)).mono ?_
        rintro e w8 ⟨a8, c8, rfl, o8, b8⟩
        go_wp2
        go_ret
        rw [HBE.out]
        exact ⟨a8, c8, by rw [List.length_append]; rfl, o8, b7.trans b8⟩
      · have hT' : hi ≤ t := by omega
        have hbe : L ++ betG lo hi ((t, rs) :: G) = L := by rw [betG_cons, if_neg (by omega), if_neg hT]; simp
        rw [hbe]
        clear hT hbe
        go_enter Try.func37, Try.ntmps37
        go_wp2_with fail
        refine (between_nil a L.length c lo hi w).mono ?_
        rintro e w' ⟨rfl, rfl⟩
        go_wp2
        go_ret
        exact ⟨a, c, rfl, ho, Below.refl _ _⟩
    · have hA' : t < lo := by omega
      by_cases hT : t < hi
      · have hbe : betG lo hi ((t, rs) :: G) = betG lo hi G := by rw [betG_cons, if_neg (by omega), if_pos hT, List.nil_append]
        rw [hbe]
        clear hA hbe
        go_enter Try.func37, Try.ntmps37
        go_wp2_with fail
        refine (IH.out mid B2 q a L c w h6 ho hB (by omega)).mono ?_
        rintro e w8 ⟨a8, c8, rfl, o8, b8⟩
        go_wp2
        go_ret
        exact ⟨a8, c8, by rw [List.length_append]; rfl, o8, b8⟩
      · have hT' : hi ≤ t := by omega
        have hbe : L ++ betG lo hi ((t, rs) :: G) = L := by rw [betG_cons, if_neg (by omega), if_neg hT]; simp
        rw [hbe]
        clear hT hA hbe
        go_enter Try.func37, Try.ntmps37
        go_wp2
        go_ret
        exact ⟨a, c, rfl, ho, Below.refl _ _⟩
set_option maxHeartbeats 400000 in
theorem implRecordsBetween_any (ao : Option Addr) (rs : List Rec) (c : Nat) (lo hi : Int) (w : World) (hx : Recs w ao rs) (lx : rs.length ≤ 1048576) :
    Calls Try.prog 25 #[.slice ao rs.length c, .int .i64 lo, .int .i64 hi] w fun e w' => ∃ ao' c', e = .returned (.slice ao' (betL rs lo hi).length c') ∧ OwnR w' w.heap.size ao' c' (betL rs lo hi) ∧ Below w.heap.size w w' := by
  cases hv : recsB rs
  · have e0 : betL rs lo hi = [] := by simp [betL, hv]
    rw [e0]
    clear e0
    go_enter Try.func25, Try.ntmps25
    go_wp2_with fail
    refine (implRecordsValid_any ao rs c w hx (by omega)).mono ?_
    rintro e w1 ⟨rfl, hb1⟩
    go_wp2
    go_ret
    exact ⟨none, 0, rfl, World.ownsRow_nil _ _ _ _, hb1⟩
  · have hs := recsB_sorted hv
    have e0 : betL rs lo hi = betG lo hi (groupsOf rs) := by simp [betL, hv, bet_groups hs]
    have hg := groups_ok hs rs.length (Nat.le_refl _)
    rw [List.take_length] at hg
    have hl30 : rs.length ≤ 30 := (recsB_iff.1 hv).1
    have hgl : (flatG (groupsOf rs)).length ≤ 30 := by rw [hg.2.1]; exact hl30
    have HS := Lib.hid hs
    rw [e0]
    clear e0 hg hs
    go_enter Try.func25, Try.ntmps25
    go_wp2_with fail
    refine (implRecordsValid_any ao rs c w hx (by omega)).mono ?_
    rintro e w1 ⟨rfl, hb1⟩
    go_wp2_with fail
    refine (treeOf_any ao rs c w1 (hx.below hb1) HS.out (by omega)).mono ?_
    rintro e w2 ⟨p, rfl, hsp, b2⟩
    go_wp2_with fail
    refine (between_any lo hi (groupsOf rs) _ _ p none [] 0 w2 hsp (World.ownsRow_nil _ _ _ _) (Nat.le_refl _) (by simp; omega)).mono ?_
    rintro e w3 ⟨a3, c3, rfl, o3, b3⟩
    have B2 := below_join hb1 b2
    rw [List.nil_append] at o3 ⊢
    go_wp2
    go_ret
    exact ⟨a3, c3, rfl, OwnR.base o3 B2.size, B2.trans (b3.mono B2.size)⟩
end Go.Proofs.Ytnapcacgdidgdaa
