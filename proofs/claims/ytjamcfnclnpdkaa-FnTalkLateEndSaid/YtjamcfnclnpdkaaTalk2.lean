/- One who sends packets in turn: copies and comparison. -/
import Derived.Test.YtjamcfnclnpdkaaTalk
import Derived.Deep.RegionHeld3
namespace Go.Proofs.Ytjamcfnclnpdkaa
open Go.RowKit

theorem szIntS_yes (ao : Option Addr) (n c : Nat) (left : Int) (w : World) (h : (n : Int) ≤ left) (h1 : left ≤ 4611686018427387904) :
    Calls Try.prog 48 #[.slice ao n c, .int .i64 left] w fun e w' => e = .returned (.int .i64 (left - n)) ∧ w = w' := by
  go_enter Try.func48, Try.ntmps48
  go_wp2
  go_ret
  exact ⟨rfl, rfl⟩
theorem szIntS_no (ao : Option Addr) (n c : Nat) (left : Int) (w : World) (h : left < (n : Int)) (h0 : 0 ≤ left) (hn : n ≤ 9223372036854775807) :
    Calls Try.prog 48 #[.slice ao n c, .int .i64 left] w fun e w' => e = .returned (.int .i64 (-1)) ∧ w = w' := by
  go_enter Try.func48, Try.ntmps48
  go_wp2
  go_ret
  exact ⟨rfl, rfl⟩

theorem szTalk_yes (n tr : Int) (ao : Option Addr) (m c : Nat) (left : Int) (w : World) (h : (m : Int) ≤ left) (h1 : left ≤ 4611686018427387904) :
    Calls Try.prog 18 #[.agg #[.int .i64 n, .int .i64 tr, .slice ao m c], .int .i64 left] w fun e w' => e = .returned (.int .i64 (left - m)) ∧ Below w.heap.size w w' := by
  have b0 : Below w.heap.size w (w.alloc (.cells #[.int .i64 n, .int .i64 tr, .slice ao m c] 29)) := (Below.refl _ _).alloc (Nat.le_refl _) _
  have B0 := Lib.hid b0
  clear b0
  go_enter Try.func18, Try.ntmps18
  go_wp2_with fail
  refine (szIntS_yes ao m c left _ h h1).mono ?_
  rintro e w1 ⟨rfl, rfl⟩
  go_wp2
  go_ret
  exact ⟨rfl, B0.out⟩
theorem szTalk_no (n tr : Int) (ao : Option Addr) (m c : Nat) (left : Int) (w : World) (h : left < (m : Int)) (h0 : 0 ≤ left) (hm : m ≤ 9223372036854775807) :
    Calls Try.prog 18 #[.agg #[.int .i64 n, .int .i64 tr, .slice ao m c], .int .i64 left] w fun e w' => e = .returned (.int .i64 (-1)) ∧ Below w.heap.size w w' := by
  have b0 : Below w.heap.size w (w.alloc (.cells #[.int .i64 n, .int .i64 tr, .slice ao m c] 29)) := (Below.refl _ _).alloc (Nat.le_refl _) _
  have B0 := Lib.hid b0
  clear b0
  go_enter Try.func18, Try.ntmps18
  go_wp2_with fail
  refine (szIntS_no ao m c left _ h h0 hm).mono ?_
  rintro e w1 ⟨rfl, rfl⟩
  go_wp2
  go_ret
  exact ⟨rfl, B0.out⟩

set_option maxHeartbeats 400000 in
theorem toTalk_any (n tr : Int) (ao : Option Addr) (xs : List Int) (c : Nat) (w : World) (hx : Ints w ao xs) (lx : xs.length ≤ 1048576) :
    Calls Try.prog 19 #[.agg #[.int .i64 n, .int .i64 tr, .slice ao xs.length c]] w fun e w' => ∃ ao' c', e = .returned (.agg #[.int .i64 n, .int .i64 tr, .slice ao' xs.length c']) ∧ OwnI w' w.heap.size ao' c' xs ∧ Below w.heap.size w w' := by
  have b0 : Below w.heap.size w (((w.alloc (.cells #[.int .i64 n, .int .i64 tr, .slice ao xs.length c] 29)).alloc (.cells #[.int .i64 0, .int .i64 0, .slice none 0 0] 25)).alloc (.cells #[.int .i64 n, .int .i64 tr, .slice none 0 0] 25)) := (((Below.refl _ _).alloc (Nat.le_refl _) _).alloc (by simp) _).alloc (by simp; omega) _
  have B0 := Lib.hid b0
  have hx0 := hx.below b0
  clear b0
  go_enter Try.func19, Try.ntmps19
  go_wp2_with fail
  refine (toIntS_any ao xs c _ hx0 lx).mono ?_
  rintro e w1 ⟨a1, c1, rfl, o1, b1⟩
  have kc1 : w1.cell? ⟨w.heap.size + 1 + 1, 0, none⟩ = some (.int .i64 n) := (Keeps.of_below b1) _ _ _ (by simp [go_sem])
  have kf1 : w1.frozen? ⟨w.heap.size + 1 + 1, 0, none⟩ = false := (Below.hot b1 (by simp [go_sem])).trans (by simp [go_sem])
  have kc2 : w1.cell? ⟨w.heap.size + 1 + 1, 1, none⟩ = some (.int .i64 tr) := (Keeps.of_below b1) _ _ _ (by simp [go_sem])
  have kf2 : w1.frozen? ⟨w.heap.size + 1 + 1, 1, none⟩ = false := (Below.hot b1 (by simp [go_sem])).trans (by simp [go_sem])
  have kc3 : w1.cell? ⟨w.heap.size + 1 + 1, 2, none⟩ = some (.slice none 0 0) := (Keeps.of_below b1) _ _ _ (by simp [go_sem])
  have kf3 : w1.frozen? ⟨w.heap.size + 1 + 1, 2, none⟩ = false := (Below.hot b1 (by simp [go_sem])).trans (by simp [go_sem])
  have kc4 : w1.cell? ⟨w.heap.size + 1, 0, none⟩ = some (.int .i64 0) := (Keeps.of_below b1) _ _ _ (by simp [go_sem])
  have kf4 : w1.frozen? ⟨w.heap.size + 1, 0, none⟩ = false := (Below.hot b1 (by simp [go_sem])).trans (by simp [go_sem])
  have kc5 : w1.cell? ⟨w.heap.size + 1, 1, none⟩ = some (.int .i64 0) := (Keeps.of_below b1) _ _ _ (by simp [go_sem])
  have kf5 : w1.frozen? ⟨w.heap.size + 1, 1, none⟩ = false := (Below.hot b1 (by simp [go_sem])).trans (by simp [go_sem])
  have kc6 : w1.cell? ⟨w.heap.size + 1, 2, none⟩ = some (.slice none 0 0) := (Keeps.of_below b1) _ _ _ (by simp [go_sem])
  have kf6 : w1.frozen? ⟨w.heap.size + 1, 2, none⟩ = false := (Below.hot b1 (by simp [go_sem])).trans (by simp [go_sem])
  go_wp2
  refine bodyPost_ret (v := .agg #[.int .i64 n, .int .i64 tr, .slice a1 xs.length c1]) (by simp [results, Try.results19, go_sem, *]) rfl ?_
  refine ⟨_, _, rfl, ?_, ?_⟩
  · exact OwnI.base (own_set (own_set (own_set (own_set o1 _ _ (by simp)) _ _ (by simp)) _ _ (by simp)) _ _ (by simp)) (by simp; omega)
  · exact (((( below_join B0.out b1).setCell (by simp; omega) _).setCell (by simp) _).setCell (by simp) _).setCell (by simp) _

set_option maxHeartbeats 400000 in
theorem eqTalk_any (n tr m ur : Int) (ao bo : Option Addr) (xs ys : List Int) (c d : Nat) (w : World) (hx : Ints w ao xs) (hy : Ints w bo ys) (lx : xs.length ≤ 4611686018427387904) (ly : ys.length ≤ 4611686018427387904) :
    Calls Try.prog 20 #[.agg #[.int .i64 n, .int .i64 tr, .slice ao xs.length c], .agg #[.int .i64 m, .int .i64 ur, .slice bo ys.length d]] w fun e w' => e = .returned (.bool (decide (n = m ∧ tr = ur ∧ xs = ys))) ∧ Below w.heap.size w w' := by
  have b0 : Below w.heap.size w ((w.alloc (.cells #[.int .i64 n, .int .i64 tr, .slice ao xs.length c] 25)).alloc (.cells #[.int .i64 m, .int .i64 ur, .slice bo ys.length d] 25)) := ((Below.refl _ _).alloc (Nat.le_refl _) _).alloc (by simp) _
  have B0 := Lib.hid b0
  have hx0 := hx.below b0
  have hy0 := hy.below b0
  clear b0
  by_cases hn : n = m
  case neg =>
    have hb : (n == m) = false := by simpa using hn
    have HN := Lib.hid hn
    clear hn
    go_enter Try.func20, Try.ntmps20
    go_wp2
    go_ret
    exact ⟨ret_bool (by simp [HN.out]), B0.out⟩
  subst hn
  by_cases ht : tr = ur
  case neg =>
    have hb : (tr == ur) = false := by simpa using ht
    have HT := Lib.hid ht
    clear ht
    go_enter Try.func20, Try.ntmps20
    go_wp2
    go_ret
    exact ⟨ret_bool (by simp [HT.out]), B0.out⟩
  subst ht
  by_cases hxy : xs = ys
  · subst hxy
    go_enter Try.func20, Try.ntmps20
    go_wp2_with fail
    refine (eqIntS_below ao bo xs xs c d _ hx0 hy0 lx lx).mono ?_
    rintro e w1 ⟨rfl, b1⟩
    go_wp2
    go_ret
    exact ⟨ret_bool (by simp), below_join B0.out b1⟩
  · have hd : decide (xs = ys) = false := by simpa using hxy
    have HD := Lib.hid hxy
    clear hxy
    go_enter Try.func20, Try.ntmps20
    go_wp2_with fail
    refine (eqIntS_below ao bo xs ys c d _ hx0 hy0 lx ly).mono ?_
    rintro e w1 ⟨rfl, b1⟩
    go_wp2
    go_ret
    exact ⟨ret_bool (by simp [HD.out]), below_join B0.out b1⟩
end Go.Proofs.Ytjamcfnclnpdkaa
