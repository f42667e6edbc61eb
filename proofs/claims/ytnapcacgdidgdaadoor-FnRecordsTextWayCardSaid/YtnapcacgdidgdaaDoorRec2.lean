/- Records: copies of them, comparison, marks. -/
import Derived.Test.YtnapcacgdidgdaaDoorRec
namespace Go.Proofs.YtnapcacgdidgdaaDoor
open Go.RowKit

theorem szRecordS_yes (ao : Option Addr) (n c : Nat) (left : Int) (w : World) (h : (n : Int) ≤ left) (h1 : left ≤ 4611686018427387904) :
    Calls Tryd.prog 10 #[.slice ao n c, .int .i64 left] w fun e w' => e = .returned (.int .i64 (left - n)) ∧ w = w' := by
  go_enter Tryd.func10, Tryd.ntmps10
  go_wp2
  go_ret
  exact ⟨rfl, rfl⟩
theorem szRecordS_no (ao : Option Addr) (n c : Nat) (left : Int) (w : World) (h : left < (n : Int)) (h0 : 0 ≤ left) (hn : n ≤ 9223372036854775807) :
    Calls Tryd.prog 10 #[.slice ao n c, .int .i64 left] w fun e w' => e = .returned (.int .i64 (-1)) ∧ w = w' := by
  go_enter Tryd.func10, Tryd.ntmps10
  go_wp2
  go_ret
  exact ⟨rfl, rfl⟩

theorem eqRecord_any (r q : Rec) (w : World) : Calls Tryd.prog 24 #[.agg #[.int .i64 r.t, .int .i64 r.w, .int .i64 r.b], .agg #[.int .i64 q.t, .int .i64 q.w, .int .i64 q.b]] w fun e w' => e = .returned (.bool (decide (r = q))) ∧ Below w.heap.size w w' := by
  obtain ⟨t, x, y⟩ := r
  obtain ⟨t', x', y'⟩ := q
  dsimp only
  have fin : ∀ b : Bool, b = decide ((⟨t, x, y⟩ : Rec) = ⟨t', x', y'⟩) → ∀ W, W = (w.alloc (.cells #[.int .i64 t, .int .i64 x, .int .i64 y] 29)).alloc (.cells #[.int .i64 t', .int .i64 x', .int .i64 y'] 29) → Ending.returned (.bool b) = .returned (.bool (decide ((⟨t, x, y⟩ : Rec) = ⟨t', x', y'⟩))) ∧ Below w.heap.size w W := by
    rintro b rfl W rfl
    exact ⟨rfl, ((Below.refl _ _).alloc (Nat.le_refl _) _).alloc (by simp) _⟩
  by_cases h0 : t = t'
  case neg =>
    have b0 : (t != t') = true := by simpa using h0
    go_enter Tryd.func24, Tryd.ntmps24
    go_wp2
    go_ret
    exact fin _ (by simp [h0]) _ rfl
  subst h0
  by_cases h1 : x = x'
  case neg =>
    have b0 : (x != x') = true := by simpa using h1
    go_enter Tryd.func24, Tryd.ntmps24
    go_wp2
    go_ret
    exact fin _ (by simp [h1]) _ rfl
  subst h1
  by_cases h2 : y = y'
  case neg =>
    have b0 : (y != y') = true := by simpa using h2
    go_enter Tryd.func24, Tryd.ntmps24
    go_wp2
    go_ret
    exact fin _ (by simp [h2]) _ rfl
  subst h2
  go_enter Tryd.func24, Tryd.ntmps24
  go_wp2
  go_ret
  exact fin _ (by simp) _ rfl

set_option maxHeartbeats 400000 in
theorem eqRecordS_any (ao bo : Option Addr) (xs ys : List Rec) (c d : Nat) (w : World) (hx : Recs w ao xs) (hy : Recs w bo ys)
    (lx : xs.length ≤ 4611686018427387904) (ly : ys.length ≤ 4611686018427387904) :
    Calls Tryd.prog 12 #[.slice ao xs.length c, .slice bo ys.length d] w fun e w' => e = .returned (.bool (decide (xs = ys))) ∧ Below w.heap.size w w' := by
  by_cases hl : xs.length = ys.length
  · have hlb : ((xs.length : Int) != (ys.length : Int)) = false := by simp [hl]
    have HL := Lib.hid hl
    clear hl
    go_enter Tryd.func12, Tryd.ntmps12
    go_wp2
    go_loopw [5] (fun i wr => ∃ k : Nat, k ≤ xs.length ∧ i = .int .i64 k ∧ Below w.heap.size w wr ∧ xs.take k = ys.take k) (fun i _ => xs.length - (intOf i).toNat)
    case atStart => exact ⟨0, Nat.zero_le _, rfl, Below.refl _ _, rfl⟩
    case round =>
      obtain ⟨k, hk, rfl, hb, ht⟩ := hrel
      have HT := Lib.hid ht
      clear ht
      by_cases hlt : k < xs.length
      · have hlt2 : k < ys.length := by have := HL.out; omega
        obtain ⟨b, off, r, rfl, ex, _, x0, x1, x2⟩ := (hx.below hb).at_ hlt
        obtain ⟨b2, off2, q, rfl, ey, _, y0, y1, y2⟩ := (hy.below hb).at_ hlt2
        have EX := Lib.hid ex
        have EY := Lib.hid ey
        clear ex ey hx hy
        go_wp2
        have p0 : ∀ p : After wr, p.w.cell? _ = some _ := fun p => p.cell x0
        have p1 : ∀ p : After wr, p.w.cell? _ = some _ := fun p => p.cell x1
        have p2 : ∀ p : After wr, p.w.cell? _ = some _ := fun p => p.cell x2
        have q0 : ∀ p : After wr, p.w.cell? _ = some _ := fun p => p.cell y0
        have q1 : ∀ p : After wr, p.w.cell? _ = some _ := fun p => p.cell y1
        have q2 : ∀ p : After wr, p.w.cell? _ = some _ := fun p => p.cell y2
        clear x0 x1 x2 y0 y1 y2
        by_cases hxy : r = q
        · have hd : decide (r = q) = true := by simpa using hxy
          have HD := Lib.hid hxy
          clear hxy
          refine wp_region_after (by kernel_rfl) (by kernel_rfl) ?_
          repeat (go_big_quiet_step ((go_at_call 24; exact After.call (eqRecord_any r q _))))
          refine wpQuiet_nil ?_
          intro p
          go_wp2
          go_roundw
          case rel => exact ⟨k + 1, by omega, by go_num, hb.trans (p.below.mono hb.size), eq_take_step EX.out EY.out HT.out HD.out⟩
          case measure => simp [intOf]; omega
        · have hd : decide (r = q) = false := by simpa using hxy
          have HD := Lib.hid hxy
          clear hxy
          refine wp_region_after (by kernel_rfl) (by kernel_rfl) ?_
          repeat (go_big_quiet_step ((go_at_call 24; exact After.call (eqRecord_any r q _))))
          refine wpQuiet_nil ?_
          intro p
          go_wp2
          go_ret
          exact ⟨ret_bool (by simp [ne_of_at EX.out EY.out HD.out]), hb.trans (p.below.mono hb.size)⟩
      · go_wp2
        go_ret
        have e1 := HT.out
        have e2 := HL.out
        rw [List.take_of_length_le (by omega), List.take_of_length_le (by omega)] at e1
        exact ⟨ret_bool (by simp [e1]), hb⟩
  · have hlb : ((xs.length : Int) != (ys.length : Int)) = true := by simp; omega
    go_enter Tryd.func12, Tryd.ntmps12
    go_wp2
    go_ret
    refine ⟨?_, Below.refl _ _⟩
    rw [show decide (xs = ys) = false by simp; rintro rfl; exact hl rfl]
    rfl


theorem toRecord_any (t x b : Int) (w : World) : Calls Tryd.prog 23 #[.agg #[.int .i64 t, .int .i64 x, .int .i64 b]] w fun e w' => e = .returned (.agg #[.int .i64 t, .int .i64 x, .int .i64 b]) ∧ Below w.heap.size w w' := by
  go_enter Tryd.func23, Tryd.ntmps23
  go_wp2
  refine bodyPost_ret (v := .agg #[.int .i64 t, .int .i64 x, .int .i64 b]) (by simp [results, Tryd.results23, go_sem]) rfl ⟨rfl, ?_⟩
  exact (((Below.refl _ _).alloc (Nat.le_refl _) _).alloc (by simp) _).alloc (by simp only [World.size_alloc]; omega) _

theorem recs_snoc {rs : List Rec} {k : Nat} {r : Rec} (h : rs[k]? = some r) : (rs.take (k + 1)).flatMap recCells = (rs.take k).flatMap recCells ++ [.int .i64 r.t, .int .i64 r.w, .int .i64 r.b] := by
  rw [take_succ_of h, List.flatMap_append]; rfl

set_option maxHeartbeats 400000 in
theorem toRecordS_any (ao : Option Addr) (rs : List Rec) (c : Nat) (w : World) (hx : Recs w ao rs) (lx : rs.length ≤ 1048576) :
    Calls Tryd.prog 11 #[.slice ao rs.length c] w fun e w' => ∃ ao' c', e = .returned (.slice ao' rs.length c') ∧ OwnR w' w.heap.size ao' c' rs ∧ Below w.heap.size w w' := by
  have hmk := run_make_new (P := Tryd.prog) 23 29 Tryd.underlying23 rec_info rs.length (by omega) (by omega)
  go_enter Tryd.func11, Tryd.ntmps11
  go_wp2_with fail
  refine name_wp fun w1 hw1 => ?_
  have hb1 : Below w.heap.size w w1 := by rw [hw1]; exact (Below.refl _ _).alloc (Nat.le_refl _) _
  have hown := own_new w 29 (.agg #[.int .i64 0, .int .i64 0, .int .i64 0]) rs.length 3 w.heap.size (Nat.le_refl _) (by simp only [maxLen]; omega)
  rw [← hw1] at hown
  generalize (newRow _ _).toList = zs at hown
  have HZ : Hid (zs.length = rs.length * 3) := Lib.hid hown.1
  clear hw1 hmk
  go_loopw [4] (fun i wr => ∃ k : Nat, k ≤ rs.length ∧ i = .int .i64 k ∧ Below w.heap.size w wr ∧ wr.ownsRow w.heap.size 29 3 (.slice (some ⟨w.heap.size, 0, none⟩) rs.length rs.length) rs.length ((rs.take k).flatMap recCells ++ zs.drop (k * 3))) (fun i _ => rs.length - (intOf i).toNat)
  case atStart => exact ⟨0, Nat.zero_le _, rfl, hb1, by simpa using hown⟩
  case round =>
    obtain ⟨k, hk, rfl, hb, ho⟩ := hrel
    by_cases hlt : k < rs.length
    · obtain ⟨b, off, ⟨t, x, y⟩, rfl, ex, _, x0, x1, x2⟩ := (hx.below hb).at_ hlt
      have EX := Lib.hid ex
      clear ex hx hown
      dsimp only at x0 x1 x2
      go_wp2_with fail
      refine (toRecord_any _ _ _ _).mono ?_
      rintro e w2 ⟨rfl, hb2⟩
      have ho2 := own_below ho hb2
      obtain ⟨u0, d0⟩ := own_cell_ex ho2 (j := k * 3) (by omega)
      obtain ⟨u1, d1⟩ := own_cell_ex ho2 (j := k * 3 + 1) (by omega)
      obtain ⟨u2, d2⟩ := own_cell_ex ho2 (j := k * 3 + 2) (by omega)
      have f0 := ho2.frozenAt (k * 3)
      have f1 := ho2.frozenAt (k * 3 + 1)
      have f2 := ho2.frozenAt (k * 3 + 2)
      have HP := Lib.hid (own_put3 ho2 (by rw [flatN_length recCells 3 recCells_length, List.length_take]; omega) (by have := HZ.out; omega) (.int .i64 t) (.int .i64 x) (.int .i64 y))
      clear ho ho2 x0 x1 x2
      go_wp2
      go_roundw
      case rel =>
        refine ⟨k + 1, by omega, by go_num, (((hb.trans (hb2.mono hb.size)).setCell (Nat.le_refl _) _).setCell (Nat.le_refl _) _).setCell (Nat.le_refl _) _, ?_⟩
        rw [recs_snoc EX.out, show (k + 1) * 3 = k * 3 + 3 by omega]
        exact HP.out.1
      case measure => simp [intOf]; omega
    · have he : k = rs.length := by omega
      subst he
      go_wp2
      go_ret
      refine ⟨_, _, rfl, ?_, hb⟩
      have := ho
      rw [List.take_length, List.drop_of_length_le (by have := HZ.out; omega), List.append_nil] at this
      exact this


end Go.Proofs.YtnapcacgdidgdaaDoor
