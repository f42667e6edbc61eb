/- Bytes that came: copies of them, comparison, marks. -/
import Derived.Test.YtkmampichfbppaaRecv5
namespace Go.Proofs.Ytkmampichfbppaa
open Go.RowKit

theorem szGotS_yes (ao : Option Addr) (n c : Nat) (left : Int) (w : World) (h : (n : Int) ≤ left) (h1 : left ≤ 4611686018427387904) :
    Calls Try.prog 84 #[.slice ao n c, .int .i64 left] w fun e w' => e = .returned (.int .i64 (left - n)) ∧ w = w' := by
  go_enter Try.func84, Try.ntmps84
  go_wp2
  go_ret
  exact ⟨rfl, rfl⟩
theorem szGotS_no (ao : Option Addr) (n c : Nat) (left : Int) (w : World) (h : left < (n : Int)) (h0 : 0 ≤ left) (hn : n ≤ 9223372036854775807) :
    Calls Try.prog 84 #[.slice ao n c, .int .i64 left] w fun e w' => e = .returned (.int .i64 (-1)) ∧ w = w' := by
  go_enter Try.func84, Try.ntmps84
  go_wp2
  go_ret
  exact ⟨rfl, rfl⟩

theorem eqGot_any (r q : Gt) (w : World) : Calls Try.prog 105 #[.agg #[.int .i64 r.b, .int .i64 r.c], .agg #[.int .i64 q.b, .int .i64 q.c]] w fun e w' => e = .returned (.bool (decide (r = q))) ∧ Below w.heap.size w w' := by
  obtain ⟨t, x⟩ := r
  obtain ⟨t', x'⟩ := q
  dsimp only
  have fin : ∀ b : Bool, b = decide ((⟨t, x⟩ : Gt) = ⟨t', x'⟩) → ∀ W, W = (w.alloc (.cells #[.int .i64 t, .int .i64 x] 126)).alloc (.cells #[.int .i64 t', .int .i64 x'] 126) → Ending.returned (.bool b) = .returned (.bool (decide ((⟨t, x⟩ : Gt) = ⟨t', x'⟩))) ∧ Below w.heap.size w W := by
    rintro b rfl W rfl
    exact ⟨rfl, ((Below.refl _ _).alloc (Nat.le_refl _) _).alloc (by simp) _⟩
  by_cases h0 : t = t'
  case neg =>
    have b0 : (t != t') = true := by simpa using h0
    go_enter Try.func105, Try.ntmps105
    go_wp2
    go_ret
    exact fin _ (by simp [h0]) _ rfl
  subst h0
  by_cases h1 : x = x'
  case neg =>
    have b0 : (x != x') = true := by simpa using h1
    go_enter Try.func105, Try.ntmps105
    go_wp2
    go_ret
    exact fin _ (by simp [h1]) _ rfl
  subst h1
  go_enter Try.func105, Try.ntmps105
  go_wp2
  go_ret
  exact fin _ (by simp) _ rfl

set_option maxHeartbeats 400000 in
theorem eqGotS_any (ao bo : Option Addr) (xs ys : List Gt) (c d : Nat) (w : World) (hx : Gts w ao xs) (hy : Gts w bo ys)
    (lx : xs.length ≤ 4611686018427387904) (ly : ys.length ≤ 4611686018427387904) :
    Calls Try.prog 91 #[.slice ao xs.length c, .slice bo ys.length d] w fun e w' => e = .returned (.bool (decide (xs = ys))) ∧ Below w.heap.size w w' := by
  by_cases hl : xs.length = ys.length
  · have hlb : ((xs.length : Int) != (ys.length : Int)) = false := by simp [hl]
    have HL := Lib.hid hl
    clear hl
    go_enter Try.func91, Try.ntmps91
    go_wp2
    go_loopw [5] (fun i wr => ∃ k : Nat, k ≤ xs.length ∧ i = .int .i64 k ∧ Below w.heap.size w wr ∧ xs.take k = ys.take k) (fun i _ => xs.length - (intOf i).toNat)
    case atStart => exact ⟨0, Nat.zero_le _, rfl, Below.refl _ _, rfl⟩
    case round =>
      obtain ⟨k, hk, rfl, hb, ht⟩ := hrel
      have HT := Lib.hid ht
      clear ht
      by_cases hlt : k < xs.length
      · have hlt2 : k < ys.length := by have := HL.out; omega
        obtain ⟨b, off, r, rfl, ex, _, x0, x1⟩ := (hx.below hb).at_ hlt
        obtain ⟨b2, off2, q, rfl, ey, _, y0, y1⟩ := (hy.below hb).at_ hlt2
        have EX := Lib.hid ex
        have EY := Lib.hid ey
        clear ex ey hx hy
        go_wp2
        have p0 : ∀ p : After wr, p.w.cell? _ = some _ := fun p => p.cell x0
        have p1 : ∀ p : After wr, p.w.cell? _ = some _ := fun p => p.cell x1
        have q0 : ∀ p : After wr, p.w.cell? _ = some _ := fun p => p.cell y0
        have q1 : ∀ p : After wr, p.w.cell? _ = some _ := fun p => p.cell y1
        clear x0 x1 y0 y1
        by_cases hxy : r = q
        · have hd : decide (r = q) = true := by simpa using hxy
          have HD := Lib.hid hxy
          clear hxy
          refine wp_region_after (by kernel_rfl) (by kernel_rfl) ?_
          repeat (go_big_quiet_step ((go_at_call 105; exact After.call (eqGot_any r q _))))
          refine wpQuiet_nil ?_
          intro p
          go_wp2
          go_roundw
          case rel => exact ⟨k + 1, by omega, by go_num, hb.trans (p.below.mono hb.size), eq_take_step EX.out EY.out HT.out HD.out⟩
          case measure => simp [intOf]; omega
        · have hd : decide (r = q) = false := by simpa using hxy
          have HD := Lib.hid hxy
          clear hxy
          refine wp_region_after (by kernel_rfl) (by kernel_rfl) ?_
          repeat (go_big_quiet_step ((go_at_call 105; exact After.call (eqGot_any r q _))))
          refine wpQuiet_nil ?_
          intro p
          go_wp2
          go_ret
          exact ⟨ret_bool (by simp [ne_of_at EX.out EY.out HD.out]), hb.trans (p.below.mono hb.size)⟩
      · go_wp2
        go_ret
        have e1 := HT.out
        have e2 := HL.out
        rw [List.take_of_length_le (by omega), List.take_of_length_le (by omega)] at e1
        exact ⟨ret_bool (by simp [e1]), hb⟩
  · have hlb : ((xs.length : Int) != (ys.length : Int)) = true := by simp; omega
    go_enter Try.func91, Try.ntmps91
    go_wp2
    go_ret
    refine ⟨?_, Below.refl _ _⟩
    rw [show decide (xs = ys) = false by simp; rintro rfl; exact hl rfl]
    rfl

set_option maxHeartbeats 400000 in
theorem sameGot_any (ao bo : Option Addr) (xs ys : List Gt) (c d : Nat) (w : World) (hx : Gts w ao xs) (hy : Gts w bo ys)
    (lx : xs.length ≤ 4611686018427387904) (ly : ys.length ≤ 4611686018427387904) :
    Calls Try.prog 98 #[.slice ao xs.length c, .slice bo ys.length d] w fun e w' => e = .returned (.bool (decide (xs = ys))) ∧ ∃ n, w' = w.drewN n := by
  by_cases hl : xs.length = ys.length
  · have hlb : ((xs.length : Int) != (ys.length : Int)) = false := by simp [hl]
    have HL := Lib.hid hl
    clear hl
    go_enter Try.func98, Try.ntmps98
    go_wp2
    go_loopw [5] (fun i wr => ∃ k n : Nat, k ≤ xs.length ∧ i = .int .i64 k ∧ wr = w.drewN n ∧ xs.take k = ys.take k) (fun i _ => xs.length - (intOf i).toNat)
    case atStart => exact ⟨0, 0, Nat.zero_le _, rfl, rfl, rfl⟩
    case round =>
      obtain ⟨k, n, hk, rfl, rfl, ht⟩ := hrel
      have HT := Lib.hid ht
      clear ht
      by_cases hlt : k < xs.length
      · have hlt2 : k < ys.length := by have := HL.out; omega
        obtain ⟨b, off, ⟨t, x⟩, rfl, ex, _, x0, x1⟩ := hx.at_ hlt
        obtain ⟨b2, off2, ⟨t', x'⟩, rfl, ey, _, y0, y1⟩ := hy.at_ hlt2
        have EX := Lib.hid ex
        have EY := Lib.hid ey
        clear ex ey hx hy
        dsimp only at x0 x1 y0 y1
        by_cases h0 : t = t'
        case neg =>
          have HN : Hid ((⟨t, x⟩ : Gt) ≠ ⟨t', x'⟩) := Lib.hid (by simp [h0])
          go_wp2
          go_quiet (fail)
          go_wp2
          go_ret
          exact ⟨ret_bool (by simp [ne_of_at EX.out EY.out HN.out]), n + nq, by simp⟩
        subst h0
        by_cases h1 : x = x'
        case neg =>
          have HN : Hid ((⟨t, x⟩ : Gt) ≠ ⟨t, x'⟩) := Lib.hid (by simp [h1])
          go_wp2
          go_quiet (fail)
          go_wp2
          go_ret
          exact ⟨ret_bool (by simp [ne_of_at EX.out EY.out HN.out]), n + nq, by simp⟩
        subst h1
        go_wp2
        go_quiet (fail)
        go_wp2
        go_roundw
        case rel => exact ⟨k + 1, n + nq, by omega, by go_num, by simp, eq_take_step EX.out EY.out HT.out rfl⟩
        case measure => simp [intOf]; omega
      · go_wp2
        go_ret
        have e1 := HT.out
        have e2 := HL.out
        rw [List.take_of_length_le (by omega), List.take_of_length_le (by omega)] at e1
        exact ⟨ret_bool (by simp [e1]), _, rfl⟩
  · have hlb : ((xs.length : Int) != (ys.length : Int)) = true := by simp; omega
    go_enter Try.func98, Try.ntmps98
    go_wp2
    go_ret
    refine ⟨?_, 0, rfl⟩
    rw [show decide (xs = ys) = false by simp; rintro rfl; exact hl rfl]
    rfl

theorem toGot_any (t x : Int) (w : World) : Calls Try.prog 102 #[.agg #[.int .i64 t, .int .i64 x]] w fun e w' => e = .returned (.agg #[.int .i64 t, .int .i64 x]) ∧ Below w.heap.size w w' := by
  go_enter Try.func102, Try.ntmps102
  go_wp2
  refine bodyPost_ret (v := .agg #[.int .i64 t, .int .i64 x]) (by simp [results, Try.results102, go_sem]) rfl ⟨rfl, ?_⟩
  exact (((Below.refl _ _).alloc (Nat.le_refl _) _).alloc (by simp) _).alloc (by simp only [World.size_alloc]; omega) _

theorem gts_snoc {rs : List Gt} {k : Nat} {r : Gt} (h : rs[k]? = some r) : (rs.take (k + 1)).flatMap gtCells = (rs.take k).flatMap gtCells ++ [.int .i64 r.b, .int .i64 r.c] := by
  rw [take_succ_of h, List.flatMap_append]; rfl

set_option maxHeartbeats 400000 in
theorem toGotS_any (ao : Option Addr) (rs : List Gt) (c : Nat) (w : World) (hx : Gts w ao rs) (lx : rs.length ≤ 1048576) :
    Calls Try.prog 88 #[.slice ao rs.length c] w fun e w' => ∃ ao' c', e = .returned (.slice ao' rs.length c') ∧ OwnG w' w.heap.size ao' c' rs ∧ Below w.heap.size w w' := by
  have hmk := run_make_new (P := Try.prog) 38 126 Try.underlying38 gt_info rs.length (by omega) (by omega)
  go_enter Try.func88, Try.ntmps88
  go_wp2_with fail
  refine name_wp fun w1 hw1 => ?_
  have hb1 : Below w.heap.size w w1 := by rw [hw1]; exact (Below.refl _ _).alloc (Nat.le_refl _) _
  have hown := own_new w 126 (.agg #[.int .i64 0, .int .i64 0]) rs.length 2 w.heap.size (Nat.le_refl _) (by simp only [maxLen]; omega)
  rw [← hw1] at hown
  generalize (newRow _ _).toList = zs at hown
  have HZ : Hid (zs.length = rs.length * 2) := Lib.hid hown.1
  clear hw1 hmk
  go_loopw [4] (fun i wr => ∃ k : Nat, k ≤ rs.length ∧ i = .int .i64 k ∧ Below w.heap.size w wr ∧ wr.ownsRow w.heap.size 126 2 (.slice (some ⟨w.heap.size, 0, none⟩) rs.length rs.length) rs.length ((rs.take k).flatMap gtCells ++ zs.drop (k * 2))) (fun i _ => rs.length - (intOf i).toNat)
  case atStart => exact ⟨0, Nat.zero_le _, rfl, hb1, by simpa using hown⟩
  case round =>
    obtain ⟨k, hk, rfl, hb, ho⟩ := hrel
    by_cases hlt : k < rs.length
    · obtain ⟨b, off, ⟨t, x⟩, rfl, ex, _, x0, x1⟩ := (hx.below hb).at_ hlt
      have EX := Lib.hid ex
      clear ex hx hown
      dsimp only at x0 x1
      go_wp2_with fail
      refine (toGot_any _ _ _).mono ?_
      rintro e w2 ⟨rfl, hb2⟩
      have ho2 := own_below ho hb2
      obtain ⟨u0, d0⟩ := own_cell_ex ho2 (j := k * 2) (by omega)
      obtain ⟨u1, d1⟩ := own_cell_ex ho2 (j := k * 2 + 1) (by omega)
      have f0 := ho2.frozenAt (k * 2)
      have f1 := ho2.frozenAt (k * 2 + 1)
      have HP := Lib.hid (own_put2 ho2 (by rw [flatN_length gtCells 2 gtCells_length, List.length_take]; omega) (by have := HZ.out; omega) (.int .i64 t) (.int .i64 x))
      clear ho ho2 x0 x1
      go_wp2
      go_roundw
      case rel =>
        refine ⟨k + 1, by omega, by go_num, ((hb.trans (hb2.mono hb.size)).setCell (Nat.le_refl _) _).setCell (Nat.le_refl _) _, ?_⟩
        rw [gts_snoc EX.out, show (k + 1) * 2 = k * 2 + 2 by omega]
        exact HP.out.1
      case measure => simp [intOf]; omega
    · have he : k = rs.length := by omega
      subst he
      go_wp2
      go_ret
      refine ⟨_, _, rfl, ?_, hb⟩
      have := ho
      rw [List.take_length, List.drop_of_length_le (by have := HZ.out; omega), List.append_nil] at this
      exact this

theorem own_mark2 {w : World} {base e size n c g : Nat} {vs : List Value} {k : Int} {p : Nat} (h : w.ownsRow base e size (.slice (some ⟨g, 0, none⟩) n c) n (marks k p ++ vs.drop p)) (hj : p + 1 < vs.length) (x : Int) (hx : x = k + (p : Int)) :
    ((w.setCell ⟨g, p, none⟩ (.int .i64 x)).setCell ⟨g, p + 1, none⟩ (.int .i64 (x + 1))).ownsRow base e size (.slice (some ⟨g, 0, none⟩) n c) n (marks k (p + 2) ++ vs.drop (p + 2)) ∧
      w.grownBy ((w.setCell ⟨g, p, none⟩ (.int .i64 x)).setCell ⟨g, p + 1, none⟩ (.int .i64 (x + 1))) (some g) := by
  subst hx
  rw [marks_two]
  exact own_put2 h (marks_length _ _) hj _ _

set_option maxHeartbeats 400000 in
theorem markGotS_any (base : Nat) (ao : Option Addr) (n c : Nat) (k0 : Int) (vs : List Value) (w : World) (h : w.ownsRow base 126 2 (.slice ao n c) n vs) (hk0 : 0 ≤ k0) (hk1 : k0 + n * 2 ≤ 4611686018427387904) :
    Calls Try.prog 92 #[.slice ao n c, .int .i64 k0] w fun e w' => e = .returned (.int .i64 (k0 + n * 2)) ∧ w'.ownsRow base 126 2 (.slice ao n c) n (marks k0 (n * 2)) ∧ w.grownBy w' (Value.slice ao n c).ownBlock := by
  have hl := h.1
  have HL := Lib.hid hl
  clear hl
  go_enter Try.func92, Try.ntmps92
  go_wp2
  go_loopw [1, 5] (fun k i wr => ∃ j : Nat, j ≤ n ∧ i = .int .i64 j ∧ k = .int .i64 (k0 + j * 2) ∧ wr.ownsRow base 126 2 (.slice ao n c) n (marks k0 (j * 2) ++ vs.drop (j * 2)) ∧ w.grownBy wr (Value.slice ao n c).ownBlock) (fun _ i _ => n - (intOf i).toNat)
  case atStart => exact ⟨0, Nat.zero_le _, rfl, by simp, by simpa [marks] using h, World.grownBy.refl _ _⟩
  case round =>
    obtain ⟨j, hj, rfl, rfl, hown, hg⟩ := hrel
    by_cases hlt : j < n
    · rcases own_head hown with ⟨_, h0, _⟩ | ⟨g, rfl, hgb, hgs⟩
      · omega
      obtain ⟨u0, d0⟩ := own_cell_ex hown (j := j * 2) (by omega)
      obtain ⟨u1, d1⟩ := own_cell_ex hown (j := j * 2 + 1) (by omega)
      have f0 := hown.frozenAt (j * 2)
      have f1 := hown.frozenAt (j * 2 + 1)
      have HM := Lib.hid (own_mark2 hown (by have := HL.out; omega) (k0 + (j : Int) * 2) (by simp))
      clear hown h
      go_wp2
      go_roundw
      case rel => exact ⟨j + 1, by omega, by go_num, by go_num, by rw [show (j + 1) * 2 = j * 2 + 2 by omega]; exact HM.out.1, grownBy_trans hg HM.out.2⟩
      case measure => simp [intOf]; omega
    · have he : j = n := by omega
      go_wp2
      go_ret
      subst he
      refine ⟨rfl, ?_, hg⟩
      have := hown
      rwa [List.drop_of_length_le (by have := HL.out; omega), List.append_nil] at this

set_option maxHeartbeats 400000 in
theorem heldGotS_any (ao : Option Addr) (n c : Nat) (k0 : Int) (w : World) (h : Cells w ao (marks k0 (n * 2))) (hk0 : 0 ≤ k0) (hk1 : k0 + n * 2 ≤ 4611686018427387904) :
    Calls Try.prog 93 #[.slice ao n c, .int .i64 k0] w fun e w' => e = .returned (.int .i64 (k0 + n * 2)) ∧ ∃ m, w' = w.drewN m := by
  go_enter Try.func93, Try.ntmps93
  go_wp2
  go_loopw [1, 5] (fun k i wr => ∃ j m : Nat, j ≤ n ∧ i = .int .i64 j ∧ k = .int .i64 (k0 + j * 2) ∧ wr = w.drewN m) (fun _ i _ => n - (intOf i).toNat)
  case atStart => exact ⟨0, 0, Nat.zero_le _, rfl, by simp, rfl⟩
  case round =>
    obtain ⟨j, m, hj, rfl, rfl, rfl⟩ := hrel
    by_cases hlt : j < n
    · obtain ⟨b, off, rfl, c0⟩ := h.at_ (marks_get k0 (n * 2) (j * 2) (by omega))
      obtain ⟨b', off', e', c1⟩ := h.at_ (marks_get k0 (n * 2) (j * 2 + 1) (by omega))
      obtain ⟨rfl, rfl⟩ : b = b' ∧ off = off' := by simpa using e'
      have c0 : w.cell? ⟨b, off + j * 2, none⟩ = some (.int .i64 (k0 + (j : Int) * 2)) := by rw [c0]; simp
      have c1 : w.cell? ⟨b, off + j * 2 + 1, none⟩ = some (.int .i64 (k0 + (j : Int) * 2 + 1)) := by rw [← Nat.add_assoc] at c1; rw [c1]; simp [Int.add_assoc]
      clear h
      go_wp2
      go_roundw
      case rel => exact ⟨j + 1, m, by omega, by go_num, by go_num, rfl⟩
      case measure => simp [intOf]; omega
    · have he : j = n := by omega
      go_wp2
      go_ret
      subst he
      exact ⟨rfl, m, rfl⟩
theorem sameGot_below (ao bo : Option Addr) (xs ys : List Gt) (c d : Nat) (w : World) (hx : Gts w ao xs) (hy : Gts w bo ys)
    (lx : xs.length ≤ 4611686018427387904) (ly : ys.length ≤ 4611686018427387904) :
    Calls Try.prog 98 #[.slice ao xs.length c, .slice bo ys.length d] w fun e w' => e = .returned (.bool (decide (xs = ys))) ∧ Below w.heap.size w w' :=
  (sameGot_any ao bo xs ys c d w hx hy lx ly).mono fun _ _ ⟨he, n, hn⟩ => ⟨he, hn ▸ below_drewN (Below.refl _ _) n⟩
theorem heldGotS_below (ao : Option Addr) (n c : Nat) (k0 : Int) (w : World) (h : Cells w ao (marks k0 (n * 2))) (hk0 : 0 ≤ k0) (hk1 : k0 + n * 2 ≤ 4611686018427387904) :
    Calls Try.prog 93 #[.slice ao n c, .int .i64 k0] w fun e w' => e = .returned (.int .i64 (k0 + n * 2)) ∧ Below w.heap.size w w' :=
  (heldGotS_any ao n c k0 w h hk0 hk1).mono fun _ _ ⟨he, n, hn⟩ => ⟨he, hn ▸ below_drewN (Below.refl _ _) n⟩
end Go.Proofs.Ytkmampichfbppaa
