/- One who sends packets in turn: an answer, sending, sending again: the reference's functions. -/
import Derived.Test.YtjamcfnclnpdkaaTalk4
namespace Go.Proofs.Ytjamcfnclnpdkaa
open Go.RowKit


set_option maxHeartbeats 400000 in
theorem specTalkAnswer_any (n tr k : Int) (ao : Option Addr) (xs : List Int) (c : Nat) (w : World) (hx : Ints w ao xs) (lx : xs.length ≤ 4611686018427387904) :
    Calls Try.prog 29 #[.agg #[.int .i64 n, .int .i64 tr, .slice ao xs.length c], .int .i64 k] w fun e w' => ∃ a1 c1, e = .returned (.tuple #[.agg #[.int .i64 (ansN n tr xs k), .int .i64 0, .slice a1 0 c1], .bool (ansB n tr xs k)]) ∧ OwnI w' w.heap.size a1 c1 [] ∧ Below w.heap.size w w' := by
  have no : ∀ {B : Bool}, ansB n tr xs k = B → B = false → ansN n tr xs k = 0 := fun h hb => by simp [ansN, h, hb]
  cases hv : talkB n tr xs
  · have e1 : Hid (ansB n tr xs k = false) := Lib.hid (by simp [ansB, hv])
    rw [e1.out, no e1.out rfl]
    go_enter Try.func29, Try.ntmps29
    go_wp2_with fail
    refine name_calls fun W hW => ?_
    have bW : Below w.heap.size w W := by
      rw [hW]
      repeat' (first | exact Below.refl _ _ | exact Nat.le_refl _ | assumption | refine Below.drew ?_ | refine below_drewN ?_ _ | (refine Below.alloc ?_ (by first | exact Nat.le_refl _ | omega | (simp; done) | (simp; omega)) _) | (refine Below.setCell ?_ (by first | exact Nat.le_refl _ | omega | (simp; done) | (simp; omega)) _))
    have h2 : W.heap[w.heap.size]? = some (.cells #[.int .i64 n, .int .i64 tr, .slice ao xs.length c] 25 (0, 0)) := by rw [hW, Below.heap_alloc _ _ _ (by simp)]; exact heap_new_at _ _ _ rfl
    have h4 : W.heap[w.heap.size + 1]? = some (.cells #[.int .i64 0, .int .i64 0, .slice none 0 0] 25 (0, 0)) := by rw [hW]; exact heap_new_at _ _ _ (by simp)
    have zW : W.heap.size = w.heap.size + 2 := by rw [hW]; simp
    clear hW
    refine (specTalkValid_any n tr ao xs c W (hx.below bW) (by first | omega | simp)).mono ?_
    rintro e w1 ⟨rfl, b1⟩
    have B1 := bW.trans (b1.mono bW.size)
    have z1 : w.heap.size + 2 ≤ w1.heap.size := by rw [← zW]; exact b1.size
    have zz2 : w.heap.size < w1.heap.size := by omega
    have zz4 : w.heap.size + 1 < w1.heap.size := by omega
    have H2 := Lib.hid ((b1.block _ (by omega)).trans h2)
    have H4 := Lib.hid ((b1.block _ (by omega)).trans h4)
    obtain ⟨c20, c21, c22, f20, f21, f22⟩ := three_cells H2.out
    obtain ⟨c40, c41, c42, f40, f41, f42⟩ := three_cells H4.out
    clear h2 h4 zW b1 bW
    go_wp2
    refine bodyPost_ret (v := .tuple #[.agg #[.int .i64 0, .int .i64 0, .slice none 0 0], .bool false]) (by simp [results, Try.results29, go_sem, *]) rfl ?_
    refine ⟨none, 0, rfl, own_nil _ _, ?_⟩
    repeat' (first | exact Below.refl _ _ | exact Nat.le_refl _ | assumption | refine Below.drew ?_ | refine below_drewN ?_ _ | (refine Below.alloc ?_ (by first | exact Nat.le_refl _ | omega | (simp; done) | (simp; omega)) _) | (refine Below.setCell ?_ (by first | exact Nat.le_refl _ | omega | (simp; done) | (simp; omega)) _))
  have tf := talkB_facts hv
  by_cases h0 : tr = 0
  · subst h0
    have e1 : Hid (ansB n 0 xs k = false) := Lib.hid (by simp [ansB])
    rw [e1.out, no e1.out rfl]
    obtain rfl := tf.2.2.2.1 rfl
    clear tf no e1
    go_enter Try.func29, Try.ntmps29
    go_wp2_with fail
    refine name_calls fun W hW => ?_
    have bW : Below w.heap.size w W := by
      rw [hW]
      repeat' (first | exact Below.refl _ _ | exact Nat.le_refl _ | assumption | refine Below.drew ?_ | refine below_drewN ?_ _ | (refine Below.alloc ?_ (by first | exact Nat.le_refl _ | omega | (simp; done) | (simp; omega)) _) | (refine Below.setCell ?_ (by first | exact Nat.le_refl _ | omega | (simp; done) | (simp; omega)) _))
    have h2 : W.heap[w.heap.size]? = some (.cells #[.int .i64 n, .int .i64 0, .slice ao 0 c] 25 (0, 0)) := by rw [hW, Below.heap_alloc _ _ _ (by simp)]; exact heap_new_at _ _ _ rfl
    have h4 : W.heap[w.heap.size + 1]? = some (.cells #[.int .i64 0, .int .i64 0, .slice none 0 0] 25 (0, 0)) := by rw [hW]; exact heap_new_at _ _ _ (by simp)
    have zW : W.heap.size = w.heap.size + 2 := by rw [hW]; simp
    clear hW
    refine (specTalkValid_any n 0 ao [] c W (hx.below bW) (by first | omega | simp)).mono ?_
    rintro e w1 ⟨rfl, b1⟩
    have B1 := bW.trans (b1.mono bW.size)
    have z1 : w.heap.size + 2 ≤ w1.heap.size := by rw [← zW]; exact b1.size
    have zz2 : w.heap.size < w1.heap.size := by omega
    have zz4 : w.heap.size + 1 < w1.heap.size := by omega
    have H2 := Lib.hid ((b1.block _ (by omega)).trans h2)
    have H4 := Lib.hid ((b1.block _ (by omega)).trans h4)
    obtain ⟨c20, c21, c22, f20, f21, f22⟩ := three_cells H2.out
    obtain ⟨c40, c41, c42, f40, f41, f42⟩ := three_cells H4.out
    clear h2 h4 zW b1 bW
    go_wp2
    refine bodyPost_ret (v := .tuple #[.agg #[.int .i64 0, .int .i64 0, .slice none 0 0], .bool false]) (by simp [results, Try.results29, go_sem, *]) rfl ?_
    refine ⟨none, 0, rfl, own_nil _ _, ?_⟩
    repeat' (first | exact Below.refl _ _ | exact Nat.le_refl _ | assumption | refine Below.drew ?_ | refine below_drewN ?_ _ | (refine Below.alloc ?_ (by first | exact Nat.le_refl _ | omega | (simp; done) | (simp; omega)) _) | (refine Below.setCell ?_ (by first | exact Nat.le_refl _ | omega | (simp; done) | (simp; omega)) _))
  have hb0 : (tr == 0) = false := by simpa using h0
  by_cases hk : k = n
  case neg =>
    have e1 : Hid (ansB n tr xs k = false) := Lib.hid (by simp [ansB, hk])
    have hbk : (k != n) = true := by simpa using hk
    rw [e1.out, no e1.out rfl]
    clear tf h0 hk
    go_enter Try.func29, Try.ntmps29
    go_wp2_with fail
    refine name_calls fun W hW => ?_
    have bW : Below w.heap.size w W := by
      rw [hW]
      repeat' (first | exact Below.refl _ _ | exact Nat.le_refl _ | assumption | refine Below.drew ?_ | refine below_drewN ?_ _ | (refine Below.alloc ?_ (by first | exact Nat.le_refl _ | omega | (simp; done) | (simp; omega)) _) | (refine Below.setCell ?_ (by first | exact Nat.le_refl _ | omega | (simp; done) | (simp; omega)) _))
    have h2 : W.heap[w.heap.size]? = some (.cells #[.int .i64 n, .int .i64 tr, .slice ao xs.length c] 25 (0, 0)) := by rw [hW, Below.heap_alloc _ _ _ (by simp)]; exact heap_new_at _ _ _ rfl
    have h4 : W.heap[w.heap.size + 1]? = some (.cells #[.int .i64 0, .int .i64 0, .slice none 0 0] 25 (0, 0)) := by rw [hW]; exact heap_new_at _ _ _ (by simp)
    have zW : W.heap.size = w.heap.size + 2 := by rw [hW]; simp
    clear hW
    refine (specTalkValid_any n tr ao xs c W (hx.below bW) (by first | omega | simp)).mono ?_
    rintro e w1 ⟨rfl, b1⟩
    have B1 := bW.trans (b1.mono bW.size)
    have z1 : w.heap.size + 2 ≤ w1.heap.size := by rw [← zW]; exact b1.size
    have zz2 : w.heap.size < w1.heap.size := by omega
    have zz4 : w.heap.size + 1 < w1.heap.size := by omega
    have H2 := Lib.hid ((b1.block _ (by omega)).trans h2)
    have H4 := Lib.hid ((b1.block _ (by omega)).trans h4)
    obtain ⟨c20, c21, c22, f20, f21, f22⟩ := three_cells H2.out
    obtain ⟨c40, c41, c42, f40, f41, f42⟩ := three_cells H4.out
    clear h2 h4 zW b1 bW
    go_wp2
    refine bodyPost_ret (v := .tuple #[.agg #[.int .i64 0, .int .i64 0, .slice none 0 0], .bool false]) (by simp [results, Try.results29, go_sem, *]) rfl ?_
    refine ⟨none, 0, rfl, own_nil _ _, ?_⟩
    repeat' (first | exact Below.refl _ _ | exact Nat.le_refl _ | assumption | refine Below.drew ?_ | refine below_drewN ?_ _ | (refine Below.alloc ?_ (by first | exact Nat.le_refl _ | omega | (simp; done) | (simp; omega)) _) | (refine Below.setCell ?_ (by first | exact Nat.le_refl _ | omega | (simp; done) | (simp; omega)) _))
  obtain rfl : n = k := hk.symm
  have e1 : Hid (ansB n tr xs n = true) := Lib.hid (by simp [ansB, hv]; omega)
  have e2 : Hid (ansN n tr xs n = 1 - n) := Lib.hid (by simp [ansN, e1.out])
  rw [e1.out, e2.out]
  have n0 := tf.1.1
  have n1 := tf.1.2
  clear tf h0 no
  go_enter Try.func29, Try.ntmps29
  go_wp2_with fail
  refine name_calls fun W hW => ?_
  have bW : Below w.heap.size w W := by
    rw [hW]
    repeat' (first | exact Below.refl _ _ | exact Nat.le_refl _ | assumption | refine Below.drew ?_ | refine below_drewN ?_ _ | (refine Below.alloc ?_ (by first | exact Nat.le_refl _ | omega | (simp; done) | (simp; omega)) _) | (refine Below.setCell ?_ (by first | exact Nat.le_refl _ | omega | (simp; done) | (simp; omega)) _))
  have h2 : W.heap[w.heap.size]? = some (.cells #[.int .i64 n, .int .i64 tr, .slice ao xs.length c] 25 (0, 0)) := by rw [hW, Below.heap_alloc _ _ _ (by simp)]; exact heap_new_at _ _ _ rfl
  have h4 : W.heap[w.heap.size + 1]? = some (.cells #[.int .i64 0, .int .i64 0, .slice none 0 0] 25 (0, 0)) := by rw [hW]; exact heap_new_at _ _ _ (by simp)
  have zW : W.heap.size = w.heap.size + 2 := by rw [hW]; simp
  clear hW
  refine (specTalkValid_any n tr ao xs c W (hx.below bW) (by first | omega | simp)).mono ?_
  rintro e w1 ⟨rfl, b1⟩
  have B1 := bW.trans (b1.mono bW.size)
  have z1 : w.heap.size + 2 ≤ w1.heap.size := by rw [← zW]; exact b1.size
  have zz2 : w.heap.size < w1.heap.size := by omega
  have zz4 : w.heap.size + 1 < w1.heap.size := by omega
  have H2 := Lib.hid ((b1.block _ (by omega)).trans h2)
  have H4 := Lib.hid ((b1.block _ (by omega)).trans h4)
  obtain ⟨c20, c21, c22, f20, f21, f22⟩ := three_cells H2.out
  obtain ⟨c40, c41, c42, f40, f41, f42⟩ := three_cells H4.out
  clear h2 h4 zW b1 bW
  go_wp2
  refine bodyPost_ret (v := .tuple #[.agg #[.int .i64 (1 - n), .int .i64 0, .slice (some ⟨w1.heap.size, 0, none⟩) 0 0], .bool true]) (by simp [results, Try.results29, go_sem, *]) rfl ?_
  refine ⟨_, _, rfl, ?_, ?_⟩
  · exact own_made_at _ #[] _ _ 0 _ _ (by simp) (by simp; omega) (by simp) rfl
  · repeat' (first | exact Below.refl _ _ | exact Nat.le_refl _ | assumption | refine Below.drew ?_ | refine below_drewN ?_ _ | (refine Below.alloc ?_ (by first | exact Nat.le_refl _ | omega | (simp; done) | (simp; omega)) _) | (refine Below.setCell ?_ (by first | exact Nat.le_refl _ | omega | (simp; done) | (simp; omega)) _))

set_option maxHeartbeats 1000000 in
theorem specTalkSend_any (n tr : Int) (ao bo : Option Addr) (xs ys : List Int) (c d : Nat) (w : World) (hx : Ints w ao xs) (lx : xs.length ≤ 4611686018427387904) (hy : Ints w bo ys) (ly : ys.length ≤ 4611686018427387904) :
    Calls Try.prog 41 #[.agg #[.int .i64 n, .int .i64 tr, .slice ao xs.length c], .slice bo ys.length d] w fun e w' => Sent w.heap.size (sendR n tr xs ys) e w' ∧ Below w.heap.size w w' := by
  have no : sendB n tr xs ys = false → sendR n tr xs ys = TkR.no := fun h => by simp [sendR, h]
  cases hv : talkB n tr xs
  · have e1 : Hid (sendR n tr xs ys = TkR.no) := Lib.hid (no (by simp [sendB, hv]))
    rw [e1.out]
    clear hy ly no
    go_enter Try.func41, Try.ntmps41
    go_wp2_with fail
    refine name_calls fun W hW => ?_
    have bW : Below w.heap.size w W := by
      rw [hW]
      repeat' (first | exact Below.refl _ _ | exact Nat.le_refl _ | assumption | refine Below.drew ?_ | refine below_drewN ?_ _ | (refine Below.alloc ?_ (by first | exact Nat.le_refl _ | omega | (simp; done) | (simp; omega)) _) | (refine Below.setCell ?_ (by first | exact Nat.le_refl _ | omega | (simp; done) | (simp; omega)) _))
    have h2 : W.heap[w.heap.size]? = some (.cells #[.int .i64 n, .int .i64 tr, .slice ao xs.length c] 25 (0, 0)) := by rw [hW, Below.heap_alloc _ _ _ (by simp)]; exact heap_new_at _ _ _ rfl
    have h4 : W.heap[w.heap.size + 1]? = some (.cells #[.int .i64 0, .int .i64 0, .slice none 0 0] 25 (0, 0)) := by rw [hW]; exact heap_new_at _ _ _ (by simp)
    have zW : W.heap.size = w.heap.size + 2 := by rw [hW]; simp
    clear hW
    refine (specTalkValid_any n tr ao xs c W (hx.below bW) (by first | omega | simp)).mono ?_
    rintro e w1 ⟨rfl, b1⟩
    have B1 := bW.trans (b1.mono bW.size)
    have z1 : w.heap.size + 2 ≤ w1.heap.size := by rw [← zW]; exact b1.size
    have zz2 : w.heap.size < w1.heap.size := by omega
    have zz4 : w.heap.size + 1 < w1.heap.size := by omega
    have H2 := Lib.hid ((b1.block _ (by omega)).trans h2)
    have H4 := Lib.hid ((b1.block _ (by omega)).trans h4)
    obtain ⟨c20, c21, c22, f20, f21, f22⟩ := three_cells H2.out
    obtain ⟨c40, c41, c42, f40, f41, f42⟩ := three_cells H4.out
    clear h2 h4 zW b1 bW
    go_wp2
    refine bodyPost_ret (v := .tuple #[.agg #[.int .i64 0, .int .i64 0, .slice none 0 0], .slice (some ⟨w1.heap.size, 0, none⟩) 0 0, .bool false]) (by simp [results, Try.results41, go_sem, *]) rfl ?_
    refine ⟨Sent.none _ _ _ _ _ _ (own_nil _ _) ?_ (apart_none _), ?_⟩
    · exact own_made_at _ #[] _ _ 0 _ _ (by simp) (by simp; omega) (by simp) rfl
    · repeat' (first | exact Below.refl _ _ | exact Nat.le_refl _ | assumption | refine Below.drew ?_ | refine below_drewN ?_ _ | (refine Below.alloc ?_ (by first | exact Nat.le_refl _ | omega | (simp; done) | (simp; omega)) _) | (refine Below.setCell ?_ (by first | exact Nat.le_refl _ | omega | (simp; done) | (simp; omega)) _))
  have tf := talkB_facts hv
  by_cases h0 : 0 < tr
  · have e1 : Hid (sendR n tr xs ys = TkR.no) := Lib.hid (no (by simp [sendB, hv]; intro h; omega))
    rw [e1.out]
    clear hy ly no tf
    go_enter Try.func41, Try.ntmps41
    go_wp2_with fail
    refine name_calls fun W hW => ?_
    have bW : Below w.heap.size w W := by
      rw [hW]
      repeat' (first | exact Below.refl _ _ | exact Nat.le_refl _ | assumption | refine Below.drew ?_ | refine below_drewN ?_ _ | (refine Below.alloc ?_ (by first | exact Nat.le_refl _ | omega | (simp; done) | (simp; omega)) _) | (refine Below.setCell ?_ (by first | exact Nat.le_refl _ | omega | (simp; done) | (simp; omega)) _))
    have h2 : W.heap[w.heap.size]? = some (.cells #[.int .i64 n, .int .i64 tr, .slice ao xs.length c] 25 (0, 0)) := by rw [hW, Below.heap_alloc _ _ _ (by simp)]; exact heap_new_at _ _ _ rfl
    have h4 : W.heap[w.heap.size + 1]? = some (.cells #[.int .i64 0, .int .i64 0, .slice none 0 0] 25 (0, 0)) := by rw [hW]; exact heap_new_at _ _ _ (by simp)
    have zW : W.heap.size = w.heap.size + 2 := by rw [hW]; simp
    clear hW
    refine (specTalkValid_any n tr ao xs c W (hx.below bW) (by first | omega | simp)).mono ?_
    rintro e w1 ⟨rfl, b1⟩
    have B1 := bW.trans (b1.mono bW.size)
    have z1 : w.heap.size + 2 ≤ w1.heap.size := by rw [← zW]; exact b1.size
    have zz2 : w.heap.size < w1.heap.size := by omega
    have zz4 : w.heap.size + 1 < w1.heap.size := by omega
    have H2 := Lib.hid ((b1.block _ (by omega)).trans h2)
    have H4 := Lib.hid ((b1.block _ (by omega)).trans h4)
    obtain ⟨c20, c21, c22, f20, f21, f22⟩ := three_cells H2.out
    obtain ⟨c40, c41, c42, f40, f41, f42⟩ := three_cells H4.out
    clear h2 h4 zW b1 bW
    go_wp2
    refine bodyPost_ret (v := .tuple #[.agg #[.int .i64 0, .int .i64 0, .slice none 0 0], .slice (some ⟨w1.heap.size, 0, none⟩) 0 0, .bool false]) (by simp [results, Try.results41, go_sem, *]) rfl ?_
    refine ⟨Sent.none _ _ _ _ _ _ (own_nil _ _) ?_ (apart_none _), ?_⟩
    · exact own_made_at _ #[] _ _ 0 _ _ (by simp) (by simp; omega) (by simp) rfl
    · repeat' (first | exact Below.refl _ _ | exact Nat.le_refl _ | assumption | refine Below.drew ?_ | refine below_drewN ?_ _ | (refine Below.alloc ?_ (by first | exact Nat.le_refl _ | omega | (simp; done) | (simp; omega)) _) | (refine Below.setCell ?_ (by first | exact Nat.le_refl _ | omega | (simp; done) | (simp; omega)) _))
  obtain rfl : tr = 0 := by omega
  obtain rfl := tf.2.2.2.1 rfl
  cases hb : bytesB ys
  · have e1 : Hid (sendR n 0 [] ys = TkR.no) := Lib.hid (no (by simp [sendB, bodyB, hb]))
    rw [e1.out]
    clear no tf h0
    go_enter Try.func41, Try.ntmps41
    go_wp2_with fail
    refine name_calls fun W hW => ?_
    have bW : Below w.heap.size w W := by
      rw [hW]
      repeat' (first | exact Below.refl _ _ | exact Nat.le_refl _ | assumption | refine Below.drew ?_ | refine below_drewN ?_ _ | (refine Below.alloc ?_ (by first | exact Nat.le_refl _ | omega | (simp; done) | (simp; omega)) _) | (refine Below.setCell ?_ (by first | exact Nat.le_refl _ | omega | (simp; done) | (simp; omega)) _))
    have h2 : W.heap[w.heap.size]? = some (.cells #[.int .i64 n, .int .i64 0, .slice ao 0 c] 25 (0, 0)) := by rw [hW, Below.heap_alloc _ _ _ (by simp)]; exact heap_new_at _ _ _ rfl
    have h4 : W.heap[w.heap.size + 1]? = some (.cells #[.int .i64 0, .int .i64 0, .slice none 0 0] 25 (0, 0)) := by rw [hW]; exact heap_new_at _ _ _ (by simp)
    have zW : W.heap.size = w.heap.size + 2 := by rw [hW]; simp
    clear hW
    refine (specTalkValid_any n 0 ao [] c W (hx.below bW) (by first | omega | simp)).mono ?_
    rintro e w1 ⟨rfl, b1⟩
    have B1 := bW.trans (b1.mono bW.size)
    have z1 : w.heap.size + 2 ≤ w1.heap.size := by rw [← zW]; exact b1.size
    have zz2 : w.heap.size < w1.heap.size := by omega
    have zz4 : w.heap.size + 1 < w1.heap.size := by omega
    have H2 := Lib.hid ((b1.block _ (by omega)).trans h2)
    have H4 := Lib.hid ((b1.block _ (by omega)).trans h4)
    obtain ⟨c20, c21, c22, f20, f21, f22⟩ := three_cells H2.out
    obtain ⟨c40, c41, c42, f40, f41, f42⟩ := three_cells H4.out
    clear h2 h4 zW b1 bW
    have H21 := H2
    have H41 := H4
    go_wp2_with fail
    refine (l4Bytes_any bo ys d w1 (hy.below B1) (by omega)).mono ?_
    rintro e w2 ⟨rfl, b2⟩
    have z2 := b2.size
    have z42 : w.heap.size + 1 < w2.heap.size := by omega
    have z52 : w.heap.size < w2.heap.size := by omega
    have B2 : Below w.heap.size w w2 := B1.trans (b2.mono B1.size)
    have h22 := (b2.block _ (by omega)).trans H21.out
    have h42 := (b2.block _ (by omega)).trans H41.out
    have H22 := Lib.hid h22
    have H42 := Lib.hid h42
    clear c20 c21 c22 f20 f21 f22 c40 c41 c42 f40 f41 f42 h22 h42
    obtain ⟨c20, c21, c22, f20, f21, f22⟩ := three_cells H22.out
    obtain ⟨c40, c41, c42, f40, f41, f42⟩ := three_cells H42.out
    go_wp2
    refine bodyPost_ret (v := .tuple #[.agg #[.int .i64 0, .int .i64 0, .slice none 0 0], .slice (some ⟨w2.heap.size, 0, none⟩) 0 0, .bool false]) (by simp [results, Try.results41, go_sem, *]) rfl ?_
    refine ⟨Sent.none _ _ _ _ _ _ (own_nil _ _) ?_ (apart_none _), ?_⟩
    · exact own_made_at _ #[] _ _ 0 _ _ (by simp) (by simp; omega) (by simp) rfl
    · repeat' (first | exact Below.refl _ _ | exact Nat.le_refl _ | assumption | refine Below.drew ?_ | refine below_drewN ?_ _ | (refine Below.alloc ?_ (by first | exact Nat.le_refl _ | omega | (simp; done) | (simp; omega)) _) | (refine Below.setCell ?_ (by first | exact Nat.le_refl _ | omega | (simp; done) | (simp; omega)) _))
  cases hl : inB ys.length 1 17
  · have e1 : Hid (sendR n 0 [] ys = TkR.no) := Lib.hid (no (by
      have : ¬ (1 ≤ (ys.length : Int) ∧ (ys.length : Int) ≤ 17) := by simpa [inB] using hl
      simp [sendB, bodyB]; omega))
    rw [e1.out]
    clear no tf h0
    go_enter Try.func41, Try.ntmps41
    go_wp2_with fail
    refine name_calls fun W hW => ?_
    have bW : Below w.heap.size w W := by
      rw [hW]
      repeat' (first | exact Below.refl _ _ | exact Nat.le_refl _ | assumption | refine Below.drew ?_ | refine below_drewN ?_ _ | (refine Below.alloc ?_ (by first | exact Nat.le_refl _ | omega | (simp; done) | (simp; omega)) _) | (refine Below.setCell ?_ (by first | exact Nat.le_refl _ | omega | (simp; done) | (simp; omega)) _))
    have h2 : W.heap[w.heap.size]? = some (.cells #[.int .i64 n, .int .i64 0, .slice ao 0 c] 25 (0, 0)) := by rw [hW, Below.heap_alloc _ _ _ (by simp)]; exact heap_new_at _ _ _ rfl
    have h4 : W.heap[w.heap.size + 1]? = some (.cells #[.int .i64 0, .int .i64 0, .slice none 0 0] 25 (0, 0)) := by rw [hW]; exact heap_new_at _ _ _ (by simp)
    have zW : W.heap.size = w.heap.size + 2 := by rw [hW]; simp
    clear hW
    refine (specTalkValid_any n 0 ao [] c W (hx.below bW) (by first | omega | simp)).mono ?_
    rintro e w1 ⟨rfl, b1⟩
    have B1 := bW.trans (b1.mono bW.size)
    have z1 : w.heap.size + 2 ≤ w1.heap.size := by rw [← zW]; exact b1.size
    have zz2 : w.heap.size < w1.heap.size := by omega
    have zz4 : w.heap.size + 1 < w1.heap.size := by omega
    have H2 := Lib.hid ((b1.block _ (by omega)).trans h2)
    have H4 := Lib.hid ((b1.block _ (by omega)).trans h4)
    obtain ⟨c20, c21, c22, f20, f21, f22⟩ := three_cells H2.out
    obtain ⟨c40, c41, c42, f40, f41, f42⟩ := three_cells H4.out
    clear h2 h4 zW b1 bW
    have H21 := H2
    have H41 := H4
    go_wp2_with fail
    refine (l4Bytes_any bo ys d w1 (hy.below B1) (by omega)).mono ?_
    rintro e w2 ⟨rfl, b2⟩
    have z2 := b2.size
    have z42 : w.heap.size + 1 < w2.heap.size := by omega
    have z52 : w.heap.size < w2.heap.size := by omega
    have B2 : Below w.heap.size w w2 := B1.trans (b2.mono B1.size)
    have h22 := (b2.block _ (by omega)).trans H21.out
    have h42 := (b2.block _ (by omega)).trans H41.out
    have H22 := Lib.hid h22
    have H42 := Lib.hid h42
    clear c20 c21 c22 f20 f21 f22 c40 c41 c42 f40 f41 f42 h22 h42
    obtain ⟨c20, c21, c22, f20, f21, f22⟩ := three_cells H22.out
    obtain ⟨c40, c41, c42, f40, f41, f42⟩ := three_cells H42.out
    go_wp2_with fail
    refine (l6In_any ys.length 1 17 w2).mono ?_
    rintro e w3 ⟨rfl, rfl⟩
    go_wp2
    refine bodyPost_ret (v := .tuple #[.agg #[.int .i64 0, .int .i64 0, .slice none 0 0], .slice (some ⟨w2.heap.size, 0, none⟩) 0 0, .bool false]) (by simp [results, Try.results41, go_sem, *]) rfl ?_
    refine ⟨Sent.none _ _ _ _ _ _ (own_nil _ _) ?_ (apart_none _), ?_⟩
    · exact own_made_at _ #[] _ _ 0 _ _ (by simp) (by simp; omega) (by simp) rfl
    · repeat' (first | exact Below.refl _ _ | exact Nat.le_refl _ | assumption | refine Below.drew ?_ | refine below_drewN ?_ _ | (refine Below.alloc ?_ (by first | exact Nat.le_refl _ | omega | (simp; done) | (simp; omega)) _) | (refine Below.setCell ?_ (by first | exact Nat.le_refl _ | omega | (simp; done) | (simp; omega)) _))
  · have hl2 : 1 ≤ (ys.length : Int) ∧ (ys.length : Int) ≤ 17 := by simpa [inB] using hl
    have l1 : 0 < ys.length := by omega
    have l17 : ys.length ≤ 17 := by omega
    have e1 : Hid (sendR n 0 [] ys = ⟨⟨n, 1, ys⟩, packetL n ys, true⟩) := Lib.hid (by
      have : sendB n 0 [] ys = true := by simp [sendB, bodyB, hv, hb]; omega
      simp [sendR, this])
    rw [e1.out]
    have HT := Lib.hid (talkB_turn hv)
    have HBB := Lib.hid hb
    clear no tf h0 hl2
    go_enter Try.func41, Try.ntmps41
    go_wp2_with fail
    refine name_calls fun W hW => ?_
    have bW : Below w.heap.size w W := by
      rw [hW]
      repeat' (first | exact Below.refl _ _ | exact Nat.le_refl _ | assumption | refine Below.drew ?_ | refine below_drewN ?_ _ | (refine Below.alloc ?_ (by first | exact Nat.le_refl _ | omega | (simp; done) | (simp; omega)) _) | (refine Below.setCell ?_ (by first | exact Nat.le_refl _ | omega | (simp; done) | (simp; omega)) _))
    have h2 : W.heap[w.heap.size]? = some (.cells #[.int .i64 n, .int .i64 0, .slice ao 0 c] 25 (0, 0)) := by rw [hW, Below.heap_alloc _ _ _ (by simp)]; exact heap_new_at _ _ _ rfl
    have h4 : W.heap[w.heap.size + 1]? = some (.cells #[.int .i64 0, .int .i64 0, .slice none 0 0] 25 (0, 0)) := by rw [hW]; exact heap_new_at _ _ _ (by simp)
    have zW : W.heap.size = w.heap.size + 2 := by rw [hW]; simp
    clear hW
    refine (specTalkValid_any n 0 ao [] c W (hx.below bW) (by first | omega | simp)).mono ?_
    rintro e w1 ⟨rfl, b1⟩
    have B1 := bW.trans (b1.mono bW.size)
    have z1 : w.heap.size + 2 ≤ w1.heap.size := by rw [← zW]; exact b1.size
    have zz2 : w.heap.size < w1.heap.size := by omega
    have zz4 : w.heap.size + 1 < w1.heap.size := by omega
    have H2 := Lib.hid ((b1.block _ (by omega)).trans h2)
    have H4 := Lib.hid ((b1.block _ (by omega)).trans h4)
    obtain ⟨c20, c21, c22, f20, f21, f22⟩ := three_cells H2.out
    obtain ⟨c40, c41, c42, f40, f41, f42⟩ := three_cells H4.out
    clear h2 h4 zW b1 bW
    have H21 := H2
    have H41 := H4
    go_wp2_with fail
    refine (l4Bytes_any bo ys d w1 (hy.below B1) (by omega)).mono ?_
    rintro e w2 ⟨rfl, b2⟩
    have z2 := b2.size
    have z42 : w.heap.size + 1 < w2.heap.size := by omega
    have z52 : w.heap.size < w2.heap.size := by omega
    have B2 : Below w.heap.size w w2 := B1.trans (b2.mono B1.size)
    have h22 := (b2.block _ (by omega)).trans H21.out
    have h42 := (b2.block _ (by omega)).trans H41.out
    have H22 := Lib.hid h22
    have H42 := Lib.hid h42
    clear c20 c21 c22 f20 f21 f22 c40 c41 c42 f40 f41 f42 h22 h42
    obtain ⟨c20, c21, c22, f20, f21, f22⟩ := three_cells H22.out
    obtain ⟨c40, c41, c42, f40, f41, f42⟩ := three_cells H42.out
    have hy2 : Ints w2 bo ys := (hy.below B1).below b2
    go_wp2_with fail
    refine (l6In_any ys.length 1 17 w2).mono ?_
    rintro e w3 ⟨rfl, rfl⟩
    go_wp2_with fail
    clear hb hl hv
    go_region_held3 (fun v => v.cell? ⟨w.heap.size, 0, none⟩ = some (.int .i64 n))
      (go_keep)
      (first
        | (refine step_append_fresh (by rfl) _ _ _ (by rfl) 3 _ 1 8 Try.underlying23 int_info rfl (by decide) _ (by rfl) bo ys.length d (ys.map (Value.int .i64)) (by rfl) ?hn (by simp) (ints_one _) l1 (by simp only [maxLen]; omega) (by omega) ?_
           case hn => exact Cells.drew (Cells.keep hy2 (Keeps.alloc _ _))
           intro aA dA wA hoA hgA
           have bA : Below w2.heap.size w2 wA := below_nil ((Below.refl _ _).alloc (Nat.le_refl _) _).drew hgA
           have cA := Keeps.of_below bA _ _ _ c20)
        | (go_at_call 56
           refine (l33Packet_any n bo ys d _ (hy2.below bA) l1 l17 HT.out HBB.out).mono ?_
           rintro e wC ⟨aC, dC, rfl, oC, bC⟩
           have bC2 : Below w2.heap.size w2 wC := below_join bA bC
           have cC := Keeps.of_below bC2 _ _ _ c20
           obtain ⟨c40', c41', c42', f40', f41', f42'⟩ := three_cells ((bC2.block _ z42).trans H42.out)))
    go_wp2
    refine bodyPost_ret (v := .tuple #[.agg #[.int .i64 n, .int .i64 1, .slice aA ys.length dA], .slice aC (ys.length + 3) dC, .bool true]) (by simp [results, Try.results41, go_sem, *]) rfl ?_
    have BC : Below w.heap.size w wC := B2.trans (bC2.mono B2.size)
    have zA := bA.size
    have zC := bC.size
    have zW : w2.heap.size ≤ (World.drew (w2.alloc (.cells #[] 3))).heap.size := by show _ ≤ (w2.alloc _).heap.size; simp
    refine ⟨⟨aA, dA, aC, dC, by rw [packetL_length], ?_, ?_, ?_⟩, ?_⟩
    · exact own_base (own_set (own_set (own_set (own_base (own_below hoA bC) zW) _ _ (by simp; omega)) _ _ (by simp; omega)) _ _ (by simp; omega)) B2.size
    · exact own_base (own_set (own_set (own_set oC _ _ (by simp; omega)) _ _ (by simp; omega)) _ _ (by simp; omega)) (Nat.le_trans B2.size zA)
    · exact (own_in hoA).apart (own_in oC) (.inl (Nat.le_refl _))
    · repeat' (first | exact Below.refl _ _ | exact Nat.le_refl _ | assumption | refine Below.drew ?_ | refine below_drewN ?_ _ | (refine Below.alloc ?_ (by first | exact Nat.le_refl _ | omega | (simp; done) | (simp; omega)) _) | (refine Below.setCell ?_ (by first | exact Nat.le_refl _ | omega | (simp; done) | (simp; omega)) _))

set_option maxHeartbeats 1000000 in
theorem specTalkLate_any (n tr : Int) (ao : Option Addr) (xs : List Int) (c : Nat) (w : World) (hx : Ints w ao xs) (lx : xs.length ≤ 4611686018427387904) :
    Calls Try.prog 38 #[.agg #[.int .i64 n, .int .i64 tr, .slice ao xs.length c]] w fun e w' => Sent w.heap.size (lateR n tr xs) e w' ∧ Below w.heap.size w w' := by
  have no : lateB n tr xs = false → lateR n tr xs = TkR.no := fun h => by simp [lateR, h]
  cases hv : talkB n tr xs
  · have e1 : Hid (lateR n tr xs = TkR.no) := Lib.hid (no (by simp [lateB, hv]))
    rw [e1.out]
    clear no
    go_enter Try.func38, Try.ntmps38
    go_wp2_with fail
    refine name_calls fun W hW => ?_
    have bW : Below w.heap.size w W := by
      rw [hW]
      repeat' (first | exact Below.refl _ _ | exact Nat.le_refl _ | assumption | refine Below.drew ?_ | refine below_drewN ?_ _ | (refine Below.alloc ?_ (by first | exact Nat.le_refl _ | omega | (simp; done) | (simp; omega)) _) | (refine Below.setCell ?_ (by first | exact Nat.le_refl _ | omega | (simp; done) | (simp; omega)) _))
    have h2 : W.heap[w.heap.size]? = some (.cells #[.int .i64 n, .int .i64 tr, .slice ao xs.length c] 25 (0, 0)) := by rw [hW, Below.heap_alloc _ _ _ (by simp)]; exact heap_new_at _ _ _ rfl
    have h4 : W.heap[w.heap.size + 1]? = some (.cells #[.int .i64 0, .int .i64 0, .slice none 0 0] 25 (0, 0)) := by rw [hW]; exact heap_new_at _ _ _ (by simp)
    have zW : W.heap.size = w.heap.size + 2 := by rw [hW]; simp
    clear hW
    refine (specTalkValid_any n tr ao xs c W (hx.below bW) (by first | omega | simp)).mono ?_
    rintro e w1 ⟨rfl, b1⟩
    have B1 := bW.trans (b1.mono bW.size)
    have z1 : w.heap.size + 2 ≤ w1.heap.size := by rw [← zW]; exact b1.size
    have zz2 : w.heap.size < w1.heap.size := by omega
    have zz4 : w.heap.size + 1 < w1.heap.size := by omega
    have H2 := Lib.hid ((b1.block _ (by omega)).trans h2)
    have H4 := Lib.hid ((b1.block _ (by omega)).trans h4)
    obtain ⟨c20, c21, c22, f20, f21, f22⟩ := three_cells H2.out
    obtain ⟨c40, c41, c42, f40, f41, f42⟩ := three_cells H4.out
    clear h2 h4 zW b1 bW
    go_wp2
    refine bodyPost_ret (v := .tuple #[.agg #[.int .i64 0, .int .i64 0, .slice none 0 0], .slice (some ⟨w1.heap.size, 0, none⟩) 0 0, .bool false]) (by simp [results, Try.results38, go_sem, *]) rfl ?_
    refine ⟨Sent.none _ _ _ _ _ _ (own_nil _ _) ?_ (apart_none _), ?_⟩
    · exact own_made_at _ #[] _ _ 0 _ _ (by simp) (by simp; omega) (by simp) rfl
    · repeat' (first | exact Below.refl _ _ | exact Nat.le_refl _ | assumption | refine Below.drew ?_ | refine below_drewN ?_ _ | (refine Below.alloc ?_ (by first | exact Nat.le_refl _ | omega | (simp; done) | (simp; omega)) _) | (refine Below.setCell ?_ (by first | exact Nat.le_refl _ | omega | (simp; done) | (simp; omega)) _))
  have tf := talkB_facts hv
  by_cases h0 : tr = 0
  · subst h0
    have e1 : Hid (lateR n 0 xs = TkR.no) := Lib.hid (no (by simp [lateB]))
    obtain rfl := tf.2.2.2.1 rfl
    rw [e1.out]
    clear no tf
    go_enter Try.func38, Try.ntmps38
    go_wp2_with fail
    refine name_calls fun W hW => ?_
    have bW : Below w.heap.size w W := by
      rw [hW]
      repeat' (first | exact Below.refl _ _ | exact Nat.le_refl _ | assumption | refine Below.drew ?_ | refine below_drewN ?_ _ | (refine Below.alloc ?_ (by first | exact Nat.le_refl _ | omega | (simp; done) | (simp; omega)) _) | (refine Below.setCell ?_ (by first | exact Nat.le_refl _ | omega | (simp; done) | (simp; omega)) _))
    have h2 : W.heap[w.heap.size]? = some (.cells #[.int .i64 n, .int .i64 0, .slice ao 0 c] 25 (0, 0)) := by rw [hW, Below.heap_alloc _ _ _ (by simp)]; exact heap_new_at _ _ _ rfl
    have h4 : W.heap[w.heap.size + 1]? = some (.cells #[.int .i64 0, .int .i64 0, .slice none 0 0] 25 (0, 0)) := by rw [hW]; exact heap_new_at _ _ _ (by simp)
    have zW : W.heap.size = w.heap.size + 2 := by rw [hW]; simp
    clear hW
    refine (specTalkValid_any n 0 ao [] c W (hx.below bW) (by first | omega | simp)).mono ?_
    rintro e w1 ⟨rfl, b1⟩
    have B1 := bW.trans (b1.mono bW.size)
    have z1 : w.heap.size + 2 ≤ w1.heap.size := by rw [← zW]; exact b1.size
    have zz2 : w.heap.size < w1.heap.size := by omega
    have zz4 : w.heap.size + 1 < w1.heap.size := by omega
    have H2 := Lib.hid ((b1.block _ (by omega)).trans h2)
    have H4 := Lib.hid ((b1.block _ (by omega)).trans h4)
    obtain ⟨c20, c21, c22, f20, f21, f22⟩ := three_cells H2.out
    obtain ⟨c40, c41, c42, f40, f41, f42⟩ := three_cells H4.out
    clear h2 h4 zW b1 bW
    go_wp2
    refine bodyPost_ret (v := .tuple #[.agg #[.int .i64 0, .int .i64 0, .slice none 0 0], .slice (some ⟨w1.heap.size, 0, none⟩) 0 0, .bool false]) (by simp [results, Try.results38, go_sem, *]) rfl ?_
    refine ⟨Sent.none _ _ _ _ _ _ (own_nil _ _) ?_ (apart_none _), ?_⟩
    · exact own_made_at _ #[] _ _ 0 _ _ (by simp) (by simp; omega) (by simp) rfl
    · repeat' (first | exact Below.refl _ _ | exact Nat.le_refl _ | assumption | refine Below.drew ?_ | refine below_drewN ?_ _ | (refine Below.alloc ?_ (by first | exact Nat.le_refl _ | omega | (simp; done) | (simp; omega)) _) | (refine Below.setCell ?_ (by first | exact Nat.le_refl _ | omega | (simp; done) | (simp; omega)) _))
  have hb0 : (tr == 0) = false := by simpa using h0
  by_cases h5 : tr = 5
  · subst h5
    have e1 : Hid (lateR n 5 xs = TkR.no) := Lib.hid (no (by simp [lateB]))
    rw [e1.out]
    clear no tf h0
    go_enter Try.func38, Try.ntmps38
    go_wp2_with fail
    refine name_calls fun W hW => ?_
    have bW : Below w.heap.size w W := by
      rw [hW]
      repeat' (first | exact Below.refl _ _ | exact Nat.le_refl _ | assumption | refine Below.drew ?_ | refine below_drewN ?_ _ | (refine Below.alloc ?_ (by first | exact Nat.le_refl _ | omega | (simp; done) | (simp; omega)) _) | (refine Below.setCell ?_ (by first | exact Nat.le_refl _ | omega | (simp; done) | (simp; omega)) _))
    have h2 : W.heap[w.heap.size]? = some (.cells #[.int .i64 n, .int .i64 5, .slice ao xs.length c] 25 (0, 0)) := by rw [hW, Below.heap_alloc _ _ _ (by simp)]; exact heap_new_at _ _ _ rfl
    have h4 : W.heap[w.heap.size + 1]? = some (.cells #[.int .i64 0, .int .i64 0, .slice none 0 0] 25 (0, 0)) := by rw [hW]; exact heap_new_at _ _ _ (by simp)
    have zW : W.heap.size = w.heap.size + 2 := by rw [hW]; simp
    clear hW
    refine (specTalkValid_any n 5 ao xs c W (hx.below bW) (by first | omega | simp)).mono ?_
    rintro e w1 ⟨rfl, b1⟩
    have B1 := bW.trans (b1.mono bW.size)
    have z1 : w.heap.size + 2 ≤ w1.heap.size := by rw [← zW]; exact b1.size
    have zz2 : w.heap.size < w1.heap.size := by omega
    have zz4 : w.heap.size + 1 < w1.heap.size := by omega
    have H2 := Lib.hid ((b1.block _ (by omega)).trans h2)
    have H4 := Lib.hid ((b1.block _ (by omega)).trans h4)
    obtain ⟨c20, c21, c22, f20, f21, f22⟩ := three_cells H2.out
    obtain ⟨c40, c41, c42, f40, f41, f42⟩ := three_cells H4.out
    clear h2 h4 zW b1 bW
    go_wp2
    refine bodyPost_ret (v := .tuple #[.agg #[.int .i64 0, .int .i64 0, .slice none 0 0], .slice (some ⟨w1.heap.size, 0, none⟩) 0 0, .bool false]) (by simp [results, Try.results38, go_sem, *]) rfl ?_
    refine ⟨Sent.none _ _ _ _ _ _ (own_nil _ _) ?_ (apart_none _), ?_⟩
    · exact own_made_at _ #[] _ _ 0 _ _ (by simp) (by simp; omega) (by simp) rfl
    · repeat' (first | exact Below.refl _ _ | exact Nat.le_refl _ | assumption | refine Below.drew ?_ | refine below_drewN ?_ _ | (refine Below.alloc ?_ (by first | exact Nat.le_refl _ | omega | (simp; done) | (simp; omega)) _) | (refine Below.setCell ?_ (by first | exact Nat.le_refl _ | omega | (simp; done) | (simp; omega)) _))
  have hb5 : (tr == 5) = false := by simpa using h5
  have t0 : 0 < tr := by omega
  have t5 : tr < 5 := by omega
  have bf := bodyB_facts (tf.2.2.2.2 t0)
  have l1 : 0 < xs.length := bf.1
  have l17 : xs.length ≤ 17 := bf.2.1
  have e1 : Hid (lateR n tr xs = ⟨⟨n, tr + 1, xs⟩, packetL n xs, true⟩) := Lib.hid (by
    have : lateB n tr xs = true := by simp [lateB, hv]; omega
    simp [lateR, this])
  rw [e1.out]
  have HT := Lib.hid (talkB_turn hv)
  have HBB := Lib.hid bf.2.2
  have hwr : IntKind.i64.wrap (tr + 1) = tr + 1 := IntWalk.i64_in _ (by omega)
  clear no tf bf h0 h5
  go_enter Try.func38, Try.ntmps38
  go_wp2_with fail
  refine name_calls fun W hW => ?_
  have bW : Below w.heap.size w W := by
    rw [hW]
    repeat' (first | exact Below.refl _ _ | exact Nat.le_refl _ | assumption | refine Below.drew ?_ | refine below_drewN ?_ _ | (refine Below.alloc ?_ (by first | exact Nat.le_refl _ | omega | (simp; done) | (simp; omega)) _) | (refine Below.setCell ?_ (by first | exact Nat.le_refl _ | omega | (simp; done) | (simp; omega)) _))
  have h2 : W.heap[w.heap.size]? = some (.cells #[.int .i64 n, .int .i64 tr, .slice ao xs.length c] 25 (0, 0)) := by rw [hW, Below.heap_alloc _ _ _ (by simp)]; exact heap_new_at _ _ _ rfl
  have h4 : W.heap[w.heap.size + 1]? = some (.cells #[.int .i64 0, .int .i64 0, .slice none 0 0] 25 (0, 0)) := by rw [hW]; exact heap_new_at _ _ _ (by simp)
  have zW : W.heap.size = w.heap.size + 2 := by rw [hW]; simp
  clear hW
  refine (specTalkValid_any n tr ao xs c W (hx.below bW) (by first | omega | simp)).mono ?_
  rintro e w1 ⟨rfl, b1⟩
  have B1 := bW.trans (b1.mono bW.size)
  have z1 : w.heap.size + 2 ≤ w1.heap.size := by rw [← zW]; exact b1.size
  have zz2 : w.heap.size < w1.heap.size := by omega
  have zz4 : w.heap.size + 1 < w1.heap.size := by omega
  have H2 := Lib.hid ((b1.block _ (by omega)).trans h2)
  have H4 := Lib.hid ((b1.block _ (by omega)).trans h4)
  obtain ⟨c20, c21, c22, f20, f21, f22⟩ := three_cells H2.out
  obtain ⟨c40, c41, c42, f40, f41, f42⟩ := three_cells H4.out
  clear h2 h4 zW b1 bW
  have hx1 := hx.below B1
  go_wp2_with fail
  clear hv
  go_region_held3 (fun v => v.cell? ⟨w.heap.size, 0, none⟩ = some (.int .i64 n) ∧ v.cell? ⟨w.heap.size, 1, none⟩ = some (.int .i64 tr) ∧ v.cell? ⟨w.heap.size, 2, none⟩ = some (.slice ao xs.length c))
    (go_keep)
    (first
      | (refine step_append_fresh (by rfl) _ _ _ (by rfl) 3 _ 1 8 Try.underlying23 int_info rfl (by decide) _ (by rfl) ao xs.length c (xs.map (Value.int .i64)) (by rfl) ?hn (by simp) (ints_one _) l1 (by simp only [maxLen]; omega) (by omega) ?_
         case hn => exact Cells.drew (Cells.keep hx1 (Keeps.alloc _ _))
         intro aA dA wA hoA hgA
         have bA : Below w1.heap.size w1 wA := below_nil ((Below.refl _ _).alloc (Nat.le_refl _) _).drew hgA
         have cA0 := Keeps.of_below bA _ _ _ c20
         have cA1 := Keeps.of_below bA _ _ _ c21
         have cA2 := Keeps.of_below bA _ _ _ c22)
      | (go_at_call 56
         refine (l33Packet_any n ao xs c _ (hx1.below bA) l1 l17 HT.out HBB.out).mono ?_
         rintro e wC ⟨aC, dC, rfl, oC, bC⟩
         have bC2 : Below w1.heap.size w1 wC := below_join bA bC
         have cC0 := Keeps.of_below bC2 _ _ _ c20
         have cC1 := Keeps.of_below bC2 _ _ _ c21
         have cC2 := Keeps.of_below bC2 _ _ _ c22
         obtain ⟨c40', c41', c42', f40', f41', f42'⟩ := three_cells ((bC2.block _ zz4).trans H4.out)))
  go_wp2
  refine bodyPost_ret (v := .tuple #[.agg #[.int .i64 n, .int .i64 (tr + 1), .slice aA xs.length dA], .slice aC (xs.length + 3) dC, .bool true]) (by simp [results, Try.results38, go_sem, *]) rfl ?_
  have BC : Below w.heap.size w wC := B1.trans (bC2.mono B1.size)
  have zA := bA.size
  have zC := bC.size
  have zW : w1.heap.size ≤ (World.drew (w1.alloc (.cells #[] 3))).heap.size := by show _ ≤ (w1.alloc _).heap.size; simp
  refine ⟨⟨aA, dA, aC, dC, by rw [packetL_length], ?_, ?_, ?_⟩, ?_⟩
  · exact own_base (own_set (own_set (own_set (own_base (own_below hoA bC) zW) _ _ (by simp; omega)) _ _ (by simp; omega)) _ _ (by simp; omega)) B1.size
  · exact own_base (own_set (own_set (own_set oC _ _ (by simp; omega)) _ _ (by simp; omega)) _ _ (by simp; omega)) (Nat.le_trans B1.size zA)
  · exact (own_in hoA).apart (own_in oC) (.inl (Nat.le_refl _))
  · repeat' (first | exact Below.refl _ _ | exact Nat.le_refl _ | assumption | refine Below.drew ?_ | refine below_drewN ?_ _ | (refine Below.alloc ?_ (by first | exact Nat.le_refl _ | omega | (simp; done) | (simp; omega)) _) | (refine Below.setCell ?_ (by first | exact Nat.le_refl _ | omega | (simp; done) | (simp; omega)) _))

set_option maxHeartbeats 400000 in
theorem sameTalk_any (n tr m ur : Int) (ao bo : Option Addr) (xs ys : List Int) (c d : Nat) (w : World) (hx : Ints w ao xs) (hy : Ints w bo ys) (lx : xs.length ≤ 4611686018427387904) (ly : ys.length ≤ 4611686018427387904) :
    Calls Try.prog 30 #[.agg #[.int .i64 n, .int .i64 tr, .slice ao xs.length c], .agg #[.int .i64 m, .int .i64 ur, .slice bo ys.length d]] w fun e w' => e = .returned (.bool (decide (n = m ∧ tr = ur ∧ xs = ys))) ∧ Below w.heap.size w w' := by
  have b0 : Below w.heap.size w ((w.alloc (.cells #[.int .i64 n, .int .i64 tr, .slice ao xs.length c] 25)).alloc (.cells #[.int .i64 m, .int .i64 ur, .slice bo ys.length d] 25)) := ((Below.refl _ _).alloc (Nat.le_refl _) _).alloc (by simp) _
  have B0 := Lib.hid b0
  have hx0 := hx.below b0
  have hy0 := hy.below b0
  clear b0
  by_cases hn : n = m
  case neg =>
    have hb : (n == m) = false := by simpa using hn
    have HN := Lib.hid hn
    clear hn
    go_enter Try.func30, Try.ntmps30
    go_wp2
    go_ret
    exact ⟨ret_bool (by simp [HN.out]), B0.out⟩
  subst hn
  by_cases ht : tr = ur
  case neg =>
    have hb : (tr == ur) = false := by simpa using ht
    have HT := Lib.hid ht
    clear ht
    go_enter Try.func30, Try.ntmps30
    go_wp2
    go_ret
    exact ⟨ret_bool (by simp [HT.out]), B0.out⟩
  subst ht
  by_cases hxy : xs = ys
  · subst hxy
    go_enter Try.func30, Try.ntmps30
    go_wp2_with fail
    refine (sameInts_below ao bo xs xs c d _ hx0 hy0 lx lx).mono ?_
    rintro e w1 ⟨rfl, b1⟩
    go_wp2
    go_ret
    exact ⟨ret_bool (by simp), below_join B0.out b1⟩
  · have hd : decide (xs = ys) = false := by simpa using hxy
    have HD := Lib.hid hxy
    clear hxy
    go_enter Try.func30, Try.ntmps30
    go_wp2_with fail
    refine (sameInts_below ao bo xs ys c d _ hx0 hy0 lx ly).mono ?_
    rintro e w1 ⟨rfl, b1⟩
    go_wp2
    go_ret
    exact ⟨ret_bool (by simp [HD.out]), below_join B0.out b1⟩

theorem markTalk_any (base : Nat) (n tr : Int) (ao : Option Addr) (m c : Nat) (k0 : Int) (vs : List Value) (w : World) (h : w.ownsRow base 3 1 (.slice ao m c) m vs) (hk0 : 0 ≤ k0) (hk1 : k0 + m ≤ 4611686018427387904) :
    Calls Try.prog 31 #[.agg #[.int .i64 n, .int .i64 tr, .slice ao m c], .int .i64 k0] w fun e w' => e = .returned (.int .i64 (k0 + m)) ∧ w'.ownsRow base 3 1 (.slice ao m c) m (marks k0 m) ∧ w.grownBy w' (Value.slice ao m c).ownBlock := by
  have b0 : Below w.heap.size w (w.alloc (.cells #[.int .i64 n, .int .i64 tr, .slice ao m c] 25)) := (Below.refl _ _).alloc (Nat.le_refl _) _
  have g0 := only_below b0 (Value.slice ao m c).ownBlock
  have h0 := h.alloc (.cells #[.int .i64 n, .int .i64 tr, .slice ao m c] 25)
  go_enter Try.func31, Try.ntmps31
  go_wp2_with fail
  refine (markIntS_any base ao m c k0 vs _ h0 hk0 hk1).mono ?_
  rintro e w1 ⟨rfl, h1, g1⟩
  go_wp2
  go_ret
  exact ⟨rfl, h1, grownBy_trans g0 g1⟩

theorem heldTalk_any (n tr : Int) (ao : Option Addr) (m c : Nat) (k0 : Int) (w : World) (h : Cells w ao (marks k0 m)) (hk0 : 0 ≤ k0) (hk1 : k0 + m ≤ 4611686018427387904) :
    Calls Try.prog 32 #[.agg #[.int .i64 n, .int .i64 tr, .slice ao m c], .int .i64 k0] w fun e w' => e = .returned (.int .i64 (k0 + m)) ∧ Below w.heap.size w w' := by
  have b0 : Below w.heap.size w (w.alloc (.cells #[.int .i64 n, .int .i64 tr, .slice ao m c] 25)) := (Below.refl _ _).alloc (Nat.le_refl _) _
  have h0 := h.below b0
  go_enter Try.func32, Try.ntmps32
  go_wp2_with fail
  refine (heldIntS_below ao m c k0 _ h0 hk0 hk1).mono ?_
  rintro e w1 ⟨rfl, b1⟩
  go_wp2
  go_ret
  exact ⟨rfl, below_join b0 b1⟩
end Go.Proofs.Ytjamcfnclnpdkaa
