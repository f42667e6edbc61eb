/- One who sends packets in turn: what becomes of a side with what happens. -/
import Derived.Test.YtjamcfnclnpdkaaTalk2
import Derived.Test.YtjamcfnclnpdkaaSums
namespace Go.Proofs.Ytjamcfnclnpdkaa
open Go.RowKit

def packetL (n : Int) (xs : List Int) : List Int := sumPutL (n :: xs)
theorem packetL_length (n : Int) (xs : List Int) : (packetL n xs).length = xs.length + 3 := by simp [packetL, sumPutL_length]
theorem turn_byte {n : Int} {xs : List Int} (hn : turnB n = true) (hb : bytesB xs = true) : bytesB (n :: xs) = true := by
  have : byteB n = true := by simp [turnB] at hn; simp [byteB]; omega
  simp only [bytesB, List.all_cons, this, Bool.true_and]; exact hb

set_option maxHeartbeats 400000 in
theorem talkPacket_any (n tr : Int) (ao : Option Addr) (xs : List Int) (c : Nat) (w : World) (hx : Ints w ao xs) (h0 : 0 < xs.length) (h17 : xs.length ≤ 17) (hn : turnB n = true) (hb : bytesB xs = true) :
    Calls Try.prog 55 #[.agg #[.int .i64 n, .int .i64 tr, .slice ao xs.length c]] w fun e w' => ∃ ao' c', e = .returned (.slice ao' (xs.length + 3) c') ∧ OwnI w' w.heap.size ao' c' (packetL n xs) ∧ Below w.heap.size w w' := by
  have b0 : Below w.heap.size w (w.alloc (.cells #[.int .i64 n, .int .i64 tr, .slice ao xs.length c] 25)) := (Below.refl _ _).alloc (Nat.le_refl _) _
  have B0 := Lib.hid b0
  have hx0 := hx.below b0
  have HA := Lib.hid (ints_nil_cap (c := c) hx h0)
  have HB := Lib.hid (turn_byte hn hb)
  clear b0 hx hn
  go_enter Try.func55, Try.ntmps55
  go_wp2_with (first
    | (at_builtin
       refine name_list fun W hW => ?_
       have hoW : W.ownsRow w.heap.size 3 1 (.slice (some ⟨w.heap.size + 1, 0, none⟩) 1 1) 1 [.int .i64 n] := (by rw [hW]; exact own_lit_at (w.alloc _) #[.int .i64 n] _ _ 1 _ _ (by simp) (by simp) (by simp [maxLen]) rfl)
       have hxW : Ints W ao xs := (by rw [hW]; exact hx0.keep (Keeps.alloc _ _))
       have bW : Below w.heap.size w W := (by rw [hW]; exact B0.out.alloc B0.out.size _)
       refine wpList_append_row W rfl _ _ _ rfl w.heap.size 3 _ 1 8 Try.underlying23 int_info rfl (by decide) (some ⟨w.heap.size + 1, 0, none⟩) 1 1 [.int .i64 n] (by rfl) hoW ao xs.length c (xs.map (Value.int .i64)) (by rfl) hxW (by simp) (ints_one _) HA.out (by simp only [maxLen]; omega) (by omega) bW.size ?_
       intro a1 d1 w3 ho3 hg3
       have b3 := below_append bW hoW hg3 bW.size
       have hl : 1 + xs.length = (n :: xs).length := by simp; omega
       rw [hl]
       rw [hl] at ho3
       have h03 : OwnI w3 w.heap.size a1 d1 (n :: xs) := ho3
       clear hW hoW hxW ho3 hl))
  refine (implSumPut_yes a1 (n :: xs) d1 w3 h03.ints (by simp; omega) (by simp) HB.out).mono ?_
  rintro e w4 ⟨a4, d4, rfl, o4, b4⟩
  go_wp2
  go_ret
  exact ⟨a4, d4, rfl, o4.base b3.size, b3.trans (b4.mono b3.size)⟩

set_option maxHeartbeats 400000 in
theorem l33Packet_any (n : Int) (ao : Option Addr) (xs : List Int) (c : Nat) (w : World) (hx : Ints w ao xs) (h0 : 0 < xs.length) (h17 : xs.length ≤ 17) (hn : turnB n = true) (hb : bytesB xs = true) :
    Calls Try.prog 56 #[.int .i64 n, .slice ao xs.length c] w fun e w' => ∃ ao' c', e = .returned (.slice ao' (xs.length + 3) c') ∧ OwnI w' w.heap.size ao' c' (packetL n xs) ∧ Below w.heap.size w w' := by
  have HA := Lib.hid (ints_nil_cap (c := c) hx h0)
  have HB := Lib.hid (turn_byte hn hb)
  clear hn
  go_enter Try.func56, Try.ntmps56
  go_wp2_with (first
    | (at_builtin
       refine name_list fun W hW => ?_
       have hoW : W.ownsRow w.heap.size 3 1 (.slice (some ⟨w.heap.size, 0, none⟩) 1 1) 1 [.int .i64 n] := (by rw [hW]; exact World.ownsRow_lit w #[.int .i64 n] 1 (Nat.le_refl _) (by simp [maxLen]) rfl)
       have hxW : Ints W ao xs := (by rw [hW]; exact hx.keep (Keeps.alloc _ _))
       have bW : Below w.heap.size w W := (by rw [hW]; exact (Below.refl _ _).alloc (Nat.le_refl _) _)
       refine wpList_append_row W rfl _ _ _ rfl w.heap.size 3 _ 1 8 Try.underlying23 int_info rfl (by decide) (some ⟨w.heap.size, 0, none⟩) 1 1 [.int .i64 n] (by rfl) hoW ao xs.length c (xs.map (Value.int .i64)) (by rfl) hxW (by simp) (ints_one _) HA.out (by simp only [maxLen]; omega) (by omega) bW.size ?_
       intro a1 d1 w3 ho3 hg3
       have b3 := below_append bW hoW hg3 bW.size
       have hl : 1 + xs.length = (n :: xs).length := by simp; omega
       rw [hl]
       rw [hl] at ho3
       have h03 : OwnI w3 w.heap.size a1 d1 (n :: xs) := ho3
       clear hW hoW hxW ho3 hl))
  refine (specSumPut_yes a1 (n :: xs) d1 w3 h03.ints (by simp; omega) (by simp) HB.out).mono ?_
  rintro e w4 ⟨a4, d4, rfl, o4, b4⟩
  go_wp2
  go_ret
  exact ⟨a4, d4, rfl, o4.base b3.size, b3.trans (b4.mono b3.size)⟩

theorem three_cells {w : World} {b : Nat} {u v x : Value} {t : TypeId} (h : w.heap[b]? = some (.cells #[u, v, x] t (0, 0))) :
    w.cell? ⟨b, 0, none⟩ = some u ∧ w.cell? ⟨b, 1, none⟩ = some v ∧ w.cell? ⟨b, 2, none⟩ = some x ∧ w.frozen? ⟨b, 0, none⟩ = false ∧ w.frozen? ⟨b, 1, none⟩ = false ∧ w.frozen? ⟨b, 2, none⟩ = false := by
  simp [World.cell?, World.frozen?, h]
/-- What a call that may fail gives of a talk. -/
structure Tk where
  n : Int
  t : Int
  b : List Int
def Tk.cells (k : Tk) (ao : Option Addr) (c : Nat) : Value := .agg #[.int .i64 k.n, .int .i64 k.t, .slice ao k.b.length c]
def noTk : Tk := ⟨0, 0, []⟩

theorem as_start (v : Value) (w : World) : (Instr.typeAssert (.iface 74 v) 80 74 true).run Try.prog w = .ok (.tuple #[v, .bool true]) w := by kernel_rfl
theorem as_again (v : Value) (w : World) : (Instr.typeAssert (.iface 70 v) 80 70 true).run Try.prog w = .ok (.tuple #[v, .bool true]) w := by kernel_rfl
theorem as_answer (v : Value) (w : World) : (Instr.typeAssert (.iface 65 v) 80 65 true).run Try.prog w = .ok (.tuple #[v, .bool true]) w := by kernel_rfl
theorem as_again_no (v : Value) (w : World) : (Instr.typeAssert (.iface 70 v) 80 74 true).run Try.prog w = .ok (.tuple #[.agg #[.slice none 0 0], .bool false]) w := by kernel_rfl
theorem as_answer_no (v : Value) (w : World) : (Instr.typeAssert (.iface 65 v) 80 74 true).run Try.prog w = .ok (.tuple #[.agg #[.slice none 0 0], .bool false]) w := by kernel_rfl
theorem as_answer_no2 (v : Value) (w : World) : (Instr.typeAssert (.iface 65 v) 80 70 true).run Try.prog w = .ok (.tuple #[.agg #[], .bool false]) w := by kernel_rfl

set_option maxHeartbeats 400000 in
theorem talkOn_start_yes (n : Int) (ao bo : Option Addr) (c d : Nat) (ys : List Int) (w : World) (hv : talkB n 0 [] = true) (hy : Ints w bo ys) (hb : bodyB ys = true) (ly : ys.length ≤ 17) (ly0 : 0 < ys.length) :
    Calls Try.prog 51 #[.agg #[.int .i64 n, .int .i64 0, .slice ao 0 c], .iface 74 (.agg #[.slice bo ys.length d])] w fun e w' => ∃ ao' c', e = .returned (.tuple #[.agg #[.int .i64 n, .int .i64 1, .slice ao' ys.length c'], .bool true]) ∧ OwnI w' w.heap.size ao' c' ys ∧ Below w.heap.size w w' := by
  have HA := Lib.hid (ints_nil_cap (c := d) hy ly0)
  have has := as_start
  have hx : Ints w ao [] := Cells.nil _ _
  go_enter Try.func51, Try.ntmps51
  go_wp2_with fail
  refine name_calls fun W hW => ?_
  have bW : Below w.heap.size w W := by
    rw [hW]
    repeat' (first | exact Below.refl _ _ | exact Nat.le_refl _ | assumption | refine Below.drew ?_ | refine below_drewN ?_ _ | (refine Below.alloc ?_ (by first | exact Nat.le_refl _ | omega | (simp; done) | (simp; omega)) _) | (refine Below.setCell ?_ (by first | exact Nat.le_refl _ | omega | (simp; done) | (simp; omega)) _))
  have h2 : W.heap[w.heap.size]? = some (.cells #[.int .i64 n, .int .i64 0, .slice ao 0 c] 25 (0, 0)) := by rw [hW, Below.heap_alloc _ _ _ (by simp)]; exact heap_new_at _ _ _ rfl
  have h4 : W.heap[w.heap.size + 1]? = some (.cells #[.int .i64 0, .int .i64 0, .slice none 0 0] 25 (0, 0)) := by rw [hW]; exact heap_new_at _ _ _ (by simp)
  have zW : W.heap.size = w.heap.size + 2 := by rw [hW]; simp
  clear hW
  refine (implTalkValid_any n 0 ao [] c W (hx.below bW) (by first | omega | simp)).mono ?_
  rintro e w1 ⟨rfl, b1⟩
  have B1 := bW.trans (b1.mono bW.size)
  have z1 : w.heap.size + 2 ≤ w1.heap.size := by rw [← zW]; exact b1.size
  have zz2 : w.heap.size < w1.heap.size := by omega
  have zz4 : w.heap.size + 1 < w1.heap.size := by omega
  have H2 := Lib.hid ((b1.block _ (by omega)).trans h2)
  have H4 := Lib.hid ((b1.block _ (by omega)).trans h4)
  have hx1 := hx.below B1
  obtain ⟨c20, c21, c22, f20, f21, f22⟩ := three_cells H2.out
  obtain ⟨c40, c41, c42, f40, f41, f42⟩ := three_cells H4.out
  clear h2 h4 zW hx b1 bW
  have hy1 := hy.below B1
  clear hx1 hy
  go_wp2_with fail
  refine (bodyValid_any bo ys d _ (hy1.keep (Keeps.alloc _ _)) (by omega)).mono ?_
  rintro e w2 ⟨rfl, b2⟩
  have b2' := b2.size
  simp only [World.size_alloc] at b2'
  have B2 : Below w.heap.size w w2 := (B1.alloc (by omega) _).trans (b2.mono (by simp; omega))
  have hy2 := (hy1.keep (Keeps.alloc _ _)).below b2
  clear c20 c21 c22 f20 f21 f22 c40 c41 c42 f40 f41 f42
  obtain ⟨c20, c21, c22, f20, f21, f22⟩ := three_cells ((b2.block _ (by simp; omega)).trans ((Below.heap_alloc w1 _ _ (by omega)).trans H2.out))
  obtain ⟨c40, c41, c42, f40, f41, f42⟩ := three_cells ((b2.block _ (by simp; omega)).trans ((Below.heap_alloc w1 _ _ (by omega)).trans H4.out))
  have c70 : w2.cell? ⟨w1.heap.size, 0, none⟩ = some (.slice bo ys.length d) := Keeps.of_below b2 _ _ _ (by simp)
  clear hy1 b2 B1
  go_wp2_with fail
  have n1 : w1.heap.size ≠ w.heap.size + 1 := by omega
  have n2 := Ne.symm n1
  go_region_held3 (fun v => v.cell? ⟨w.heap.size, 0, none⟩ = some (.int .i64 n) ∧ v.cell? ⟨w1.heap.size, 0, none⟩ = some (.slice bo ys.length d))
    (first
      | exact ⟨k3 _ _ _ c20, k3 _ _ _ c70⟩
      | (go_keep; done))
    ((refine step_append_nil (by rfl) _ _ _ (by rfl) w2.heap.size 3 _ 1 8 Try.underlying23 int_info rfl (by decide) (by rfl) bo ys.length d (ys.map (Value.int .i64)) (by rfl) (Cells.drew hy2) (by simp) (ints_one _) HA.out (by simp only [maxLen]; omega) (by omega) (Nat.le_refl _) ?_
      intro a3 d3 w3 ho3 hg3
      have k3 : Keeps w2 w3 := (keeps_nil hg3 : Keeps w2.drew w3)
      have f3 : ∀ j, w3.frozen? ⟨w.heap.size + 1, j, none⟩ = w2.frozen? ⟨w.heap.size + 1, j, none⟩ := fun j => hg3.frozen_far ⟨w.heap.size + 1, j, none⟩ (by show w.heap.size + 1 < w2.heap.size; omega) (by simp)
      have c40' := k3 _ _ _ c40
      have c41' := k3 _ _ _ c41
      have c42' := k3 _ _ _ c42
      have f40' := (f3 0).trans f40
      have f41' := (f3 1).trans f41
      have f42' := (f3 2).trans f42
      have b3 : Below w.heap.size w w3 := B2.drew.grown hg3 B2.size (fun k hk => by cases hk)))
  go_wp2
  refine bodyPost_ret (v := .tuple #[.agg #[.int .i64 n, .int .i64 1, .slice a3 ys.length d3], .bool true]) (by simp [results, Try.results51, go_sem, *]) rfl ?_
  refine ⟨a3, d3, rfl, ?_, ?_⟩
  · exact own_base (own_set (own_set (own_set ho3 _ _ (by simp; omega)) _ _ (by simp; omega)) _ _ (by simp; omega)) B2.size
  · repeat' (first | exact Below.refl _ _ | exact Nat.le_refl _ | assumption | refine Below.drew ?_ | refine below_drewN ?_ _ | (refine Below.alloc ?_ (by first | exact Nat.le_refl _ | omega | (simp; done) | (simp; omega)) _) | (refine Below.setCell ?_ (by first | exact Nat.le_refl _ | omega | (simp; done) | (simp; omega)) _))

set_option maxHeartbeats 400000 in
theorem talkOn_again_yes (n tr : Int) (ao : Option Addr) (c : Nat) (xs : List Int) (w : World) (hv : talkB n tr xs = true) (ht : 0 < tr) (ht5 : tr < 5) (hx : Ints w ao xs) (lx : xs.length ≤ 17) (lx0 : 0 < xs.length) :
    Calls Try.prog 51 #[.agg #[.int .i64 n, .int .i64 tr, .slice ao xs.length c], .iface 70 (.agg #[])] w fun e w' => ∃ ao' c', e = .returned (.tuple #[.agg #[.int .i64 n, .int .i64 (tr + 1), .slice ao' xs.length c'], .bool true]) ∧ OwnI w' w.heap.size ao' c' xs ∧ Below w.heap.size w w' := by
  have HA := Lib.hid (ints_nil_cap (c := c) hx lx0)
  have has := as_again
  have has' := as_again_no
  have hb5 : (tr == 5) = false := by simp; omega
  have hwr : IntKind.i64.wrap (tr + 1) = tr + 1 := IntWalk.i64_in _ (by omega)
  go_enter Try.func51, Try.ntmps51
  go_wp2_with fail
  refine name_calls fun W hW => ?_
  have bW : Below w.heap.size w W := by
    rw [hW]
    repeat' (first | exact Below.refl _ _ | exact Nat.le_refl _ | assumption | refine Below.drew ?_ | refine below_drewN ?_ _ | (refine Below.alloc ?_ (by first | exact Nat.le_refl _ | omega | (simp; done) | (simp; omega)) _) | (refine Below.setCell ?_ (by first | exact Nat.le_refl _ | omega | (simp; done) | (simp; omega)) _))
  have h2 : W.heap[w.heap.size]? = some (.cells #[.int .i64 n, .int .i64 tr, .slice ao xs.length c] 25 (0, 0)) := by rw [hW, Below.heap_alloc _ _ _ (by simp)]; exact heap_new_at _ _ _ rfl
  have h4 : W.heap[w.heap.size + 1]? = some (.cells #[.int .i64 0, .int .i64 0, .slice none 0 0] 25 (0, 0)) := by rw [hW]; exact heap_new_at _ _ _ (by simp)
  have zW : W.heap.size = w.heap.size + 2 := by rw [hW]; simp
  clear hW
  refine (implTalkValid_any n tr ao xs c W (hx.below bW) (by first | omega | simp)).mono ?_
  rintro e w1 ⟨rfl, b1⟩
  have B1 := bW.trans (b1.mono bW.size)
  have z1 : w.heap.size + 2 ≤ w1.heap.size := by rw [← zW]; exact b1.size
  have zz2 : w.heap.size < w1.heap.size := by omega
  have zz4 : w.heap.size + 1 < w1.heap.size := by omega
  have H2 := Lib.hid ((b1.block _ (by omega)).trans h2)
  have H4 := Lib.hid ((b1.block _ (by omega)).trans h4)
  have hx1 := hx.below B1
  obtain ⟨c20, c21, c22, f20, f21, f22⟩ := three_cells H2.out
  obtain ⟨c40, c41, c42, f40, f41, f42⟩ := three_cells H4.out
  clear h2 h4 zW hx b1 bW
  go_wp2_with fail
  refine name_wp fun W2 hW2 => ?_
  have k2 : Keeps w1 W2 := by rw [hW2]; exact Keeps.alloc _ _
  have B2 : Below w.heap.size w W2 := by
    rw [hW2]
    repeat' (first | exact Below.refl _ _ | exact Nat.le_refl _ | assumption | refine Below.drew ?_ | refine below_drewN ?_ _ | (refine Below.alloc ?_ (by first | exact Nat.le_refl _ | omega | (simp; done) | (simp; omega)) _) | (refine Below.setCell ?_ (by first | exact Nat.le_refl _ | omega | (simp; done) | (simp; omega)) _))
  have z2 : w.heap.size + 2 < W2.heap.size := by rw [hW2]; simp; omega
  have f2 : ∀ j, j < 3 → W2.frozen? ⟨w.heap.size + 1, j, none⟩ = false := fun j hj => by
    rw [hW2, World.frozen?_alloc_past _ _ _ (by omega)]
    match j, hj with
    | 0, _ => exact f40
    | 1, _ => exact f41
    | 2, _ => exact f42
  have hx2 := hx1.keep k2
  clear hW2
  have d20 := k2 _ _ _ c20
  have d21 := k2 _ _ _ c21
  have d22 := k2 _ _ _ c22
  have d40 := k2 _ _ _ c40
  have d41 := k2 _ _ _ c41
  have d42 := k2 _ _ _ c42
  clear c20 c21 c22 c40 c41 c42 f20 f21 f22 f40 f41 f42
  go_region_held3 (fun v => v.cell? ⟨w.heap.size, 0, none⟩ = some (.int .i64 n) ∧ v.cell? ⟨w.heap.size, 1, none⟩ = some (.int .i64 tr) ∧ v.cell? ⟨w.heap.size, 2, none⟩ = some (.slice ao xs.length c))
    (first
      | exact ⟨k3 _ _ _ d20, k3 _ _ _ d21, k3 _ _ _ d22⟩
      | (go_keep; done))
    ((refine step_append_nil (by rfl) _ _ _ (by rfl) W2.heap.size 3 _ 1 8 Try.underlying23 int_info rfl (by decide) (by rfl) ao xs.length c (xs.map (Value.int .i64)) (by rfl) (Cells.drew hx2) (by simp) (ints_one _) HA.out (by simp only [maxLen]; omega) (by omega) (Nat.le_refl _) ?_
      intro a3 d3 w3 ho3 hg3
      have k3 : Keeps W2 w3 := (keeps_nil hg3 : Keeps W2.drew w3)
      have f3 : ∀ j, w3.frozen? ⟨w.heap.size + 1, j, none⟩ = W2.frozen? ⟨w.heap.size + 1, j, none⟩ := fun j => hg3.frozen_far ⟨w.heap.size + 1, j, none⟩ (by show w.heap.size + 1 < W2.heap.size; omega) (by simp)
      have c40' := k3 _ _ _ d40
      have c41' := k3 _ _ _ d41
      have c42' := k3 _ _ _ d42
      have f40' := (f3 0).trans (f2 0 (by decide))
      have f41' := (f3 1).trans (f2 1 (by decide))
      have f42' := (f3 2).trans (f2 2 (by decide))
      have b3 : Below w.heap.size w w3 := B2.drew.grown hg3 B2.size (fun k hk => by cases hk)))
  go_wp2
  refine bodyPost_ret (v := .tuple #[.agg #[.int .i64 n, .int .i64 (tr + 1), .slice a3 xs.length d3], .bool true]) (by simp [results, Try.results51, go_sem, *]) rfl ?_
  refine ⟨a3, d3, rfl, ?_, ?_⟩
  · exact own_base (own_set (own_set (own_set ho3 _ _ (by simp; omega)) _ _ (by simp; omega)) _ _ (by simp; omega)) B2.size
  · repeat' (first | exact Below.refl _ _ | exact Nat.le_refl _ | assumption | refine Below.drew ?_ | refine below_drewN ?_ _ | (refine Below.alloc ?_ (by first | exact Nat.le_refl _ | omega | (simp; done) | (simp; omega)) _) | (refine Below.setCell ?_ (by first | exact Nat.le_refl _ | omega | (simp; done) | (simp; omega)) _))

set_option maxHeartbeats 400000 in
theorem talkOn_answer_yes (n tr : Int) (ao : Option Addr) (c : Nat) (xs : List Int) (w : World) (hv : talkB n tr xs = true) (ht : 0 < tr) (hn0 : 0 ≤ n) (hn1 : n ≤ 1) (hx : Ints w ao xs) (lx : xs.length ≤ 17) :
    Calls Try.prog 51 #[.agg #[.int .i64 n, .int .i64 tr, .slice ao xs.length c], .iface 65 (.agg #[.int .i64 n])] w fun e w' => e = .returned (.tuple #[.agg #[.int .i64 (1 - n), .int .i64 0, .slice none 0 0], .bool true]) ∧ Below w.heap.size w w' := by
  have has := as_answer
  have has' := as_answer_no
  have has2 := as_answer_no2
  go_enter Try.func51, Try.ntmps51
  go_wp2_with fail
  refine name_calls fun W hW => ?_
  have bW : Below w.heap.size w W := by
    rw [hW]
    repeat' (first | exact Below.refl _ _ | exact Nat.le_refl _ | assumption | refine Below.drew ?_ | refine below_drewN ?_ _ | (refine Below.alloc ?_ (by first | exact Nat.le_refl _ | omega | (simp; done) | (simp; omega)) _) | (refine Below.setCell ?_ (by first | exact Nat.le_refl _ | omega | (simp; done) | (simp; omega)) _))
  have h2 : W.heap[w.heap.size]? = some (.cells #[.int .i64 n, .int .i64 tr, .slice ao xs.length c] 25 (0, 0)) := by rw [hW, Below.heap_alloc _ _ _ (by simp)]; exact heap_new_at _ _ _ rfl
  have h4 : W.heap[w.heap.size + 1]? = some (.cells #[.int .i64 0, .int .i64 0, .slice none 0 0] 25 (0, 0)) := by rw [hW]; exact heap_new_at _ _ _ (by simp)
  have zW : W.heap.size = w.heap.size + 2 := by rw [hW]; simp
  clear hW
  refine (implTalkValid_any n tr ao xs c W (hx.below bW) (by first | omega | simp)).mono ?_
  rintro e w1 ⟨rfl, b1⟩
  have B1 := bW.trans (b1.mono bW.size)
  have z1 : w.heap.size + 2 ≤ w1.heap.size := by rw [← zW]; exact b1.size
  have zz2 : w.heap.size < w1.heap.size := by omega
  have zz4 : w.heap.size + 1 < w1.heap.size := by omega
  have H2 := Lib.hid ((b1.block _ (by omega)).trans h2)
  have H4 := Lib.hid ((b1.block _ (by omega)).trans h4)
  have hx1 := hx.below B1
  obtain ⟨c20, c21, c22, f20, f21, f22⟩ := three_cells H2.out
  obtain ⟨c40, c41, c42, f40, f41, f42⟩ := three_cells H4.out
  clear h2 h4 zW hx b1 bW
  go_wp2
  refine bodyPost_ret (v := .tuple #[.agg #[.int .i64 (1 - n), .int .i64 0, .slice none 0 0], .bool true]) (by simp [results, Try.results51, go_sem, *]) rfl ?_
  refine ⟨rfl, ?_⟩
  repeat' (first | exact Below.refl _ _ | exact Nat.le_refl _ | assumption | refine Below.drew ?_ | refine below_drewN ?_ _ | (refine Below.alloc ?_ (by first | exact Nat.le_refl _ | omega | (simp; done) | (simp; omega)) _) | (refine Below.setCell ?_ (by first | exact Nat.le_refl _ | omega | (simp; done) | (simp; omega)) _))

set_option maxHeartbeats 400000 in
theorem talkOn_invalid (n tr : Int) (ao : Option Addr) (c : Nat) (xs : List Int) (ev : Value) (w : World) (hv : talkB n tr xs = false) (hx : Ints w ao xs) (lx : xs.length ≤ 4611686018427387904) :
    Calls Try.prog 51 #[.agg #[.int .i64 n, .int .i64 tr, .slice ao xs.length c], ev] w fun e w' => e = .returned (.tuple #[.agg #[.int .i64 0, .int .i64 0, .slice none 0 0], .bool false]) ∧ Below w.heap.size w w' := by
  go_enter Try.func51, Try.ntmps51
  go_wp2_with fail
  refine name_calls fun W hW => ?_
  have bW : Below w.heap.size w W := by
    rw [hW]
    repeat' (first | exact Below.refl _ _ | exact Nat.le_refl _ | assumption | refine Below.drew ?_ | refine below_drewN ?_ _ | (refine Below.alloc ?_ (by first | exact Nat.le_refl _ | omega | (simp; done) | (simp; omega)) _) | (refine Below.setCell ?_ (by first | exact Nat.le_refl _ | omega | (simp; done) | (simp; omega)) _))
  have h2 : W.heap[w.heap.size]? = some (.cells #[.int .i64 n, .int .i64 tr, .slice ao xs.length c] 25 (0, 0)) := by rw [hW, Below.heap_alloc _ _ _ (by simp)]; exact heap_new_at _ _ _ rfl
  have h4 : W.heap[w.heap.size + 1]? = some (.cells #[.int .i64 0, .int .i64 0, .slice none 0 0] 25 (0, 0)) := by rw [hW]; exact heap_new_at _ _ _ (by simp)
  have zW : W.heap.size = w.heap.size + 2 := by rw [hW]; simp
  clear hW
  refine (implTalkValid_any n tr ao xs c W (hx.below bW) (by first | omega | simp)).mono ?_
  rintro e w1 ⟨rfl, b1⟩
  have B1 := bW.trans (b1.mono bW.size)
  have z1 : w.heap.size + 2 ≤ w1.heap.size := by rw [← zW]; exact b1.size
  have zz2 : w.heap.size < w1.heap.size := by omega
  have zz4 : w.heap.size + 1 < w1.heap.size := by omega
  have H2 := Lib.hid ((b1.block _ (by omega)).trans h2)
  have H4 := Lib.hid ((b1.block _ (by omega)).trans h4)
  have hx1 := hx.below B1
  obtain ⟨c20, c21, c22, f20, f21, f22⟩ := three_cells H2.out
  obtain ⟨c40, c41, c42, f40, f41, f42⟩ := three_cells H4.out
  clear h2 h4 zW hx b1 bW
  go_wp2
  refine bodyPost_ret (v := .tuple #[.agg #[.int .i64 0, .int .i64 0, .slice none 0 0], .bool false]) (by simp [results, Try.results51, go_sem, *]) rfl ?_
  refine ⟨rfl, ?_⟩
  repeat' (first | exact Below.refl _ _ | exact Nat.le_refl _ | assumption | refine Below.drew ?_ | refine below_drewN ?_ _ | (refine Below.alloc ?_ (by first | exact Nat.le_refl _ | omega | (simp; done) | (simp; omega)) _) | (refine Below.setCell ?_ (by first | exact Nat.le_refl _ | omega | (simp; done) | (simp; omega)) _))
set_option maxHeartbeats 400000 in
theorem talkOn_start_busy (n tr : Int) (ao : Option Addr) (c : Nat) (xs : List Int) (bo : Option Addr) (m d : Nat) (w : World) (hv : talkB n tr xs = true) (ht : 0 < tr) (hx : Ints w ao xs) (lx : xs.length ≤ 4611686018427387904) :
    Calls Try.prog 51 #[.agg #[.int .i64 n, .int .i64 tr, .slice ao xs.length c], .iface 74 (.agg #[.slice bo m d])] w fun e w' => e = .returned (.tuple #[.agg #[.int .i64 0, .int .i64 0, .slice none 0 0], .bool false]) ∧ Below w.heap.size w w' := by
  have has := as_start
  go_enter Try.func51, Try.ntmps51
  go_wp2_with fail
  refine name_calls fun W hW => ?_
  have bW : Below w.heap.size w W := by
    rw [hW]
    repeat' (first | exact Below.refl _ _ | exact Nat.le_refl _ | assumption | refine Below.drew ?_ | refine below_drewN ?_ _ | (refine Below.alloc ?_ (by first | exact Nat.le_refl _ | omega | (simp; done) | (simp; omega)) _) | (refine Below.setCell ?_ (by first | exact Nat.le_refl _ | omega | (simp; done) | (simp; omega)) _))
  have h2 : W.heap[w.heap.size]? = some (.cells #[.int .i64 n, .int .i64 tr, .slice ao xs.length c] 25 (0, 0)) := by rw [hW, Below.heap_alloc _ _ _ (by simp)]; exact heap_new_at _ _ _ rfl
  have h4 : W.heap[w.heap.size + 1]? = some (.cells #[.int .i64 0, .int .i64 0, .slice none 0 0] 25 (0, 0)) := by rw [hW]; exact heap_new_at _ _ _ (by simp)
  have zW : W.heap.size = w.heap.size + 2 := by rw [hW]; simp
  clear hW
  refine (implTalkValid_any n tr ao xs c W (hx.below bW) (by first | omega | simp)).mono ?_
  rintro e w1 ⟨rfl, b1⟩
  have B1 := bW.trans (b1.mono bW.size)
  have z1 : w.heap.size + 2 ≤ w1.heap.size := by rw [← zW]; exact b1.size
  have zz2 : w.heap.size < w1.heap.size := by omega
  have zz4 : w.heap.size + 1 < w1.heap.size := by omega
  have H2 := Lib.hid ((b1.block _ (by omega)).trans h2)
  have H4 := Lib.hid ((b1.block _ (by omega)).trans h4)
  have hx1 := hx.below B1
  obtain ⟨c20, c21, c22, f20, f21, f22⟩ := three_cells H2.out
  obtain ⟨c40, c41, c42, f40, f41, f42⟩ := three_cells H4.out
  clear h2 h4 zW hx b1 bW
  go_wp2
  refine bodyPost_ret (v := .tuple #[.agg #[.int .i64 0, .int .i64 0, .slice none 0 0], .bool false]) (by simp [results, Try.results51, go_sem, *]) rfl ?_
  refine ⟨rfl, ?_⟩
  repeat' (first | exact Below.refl _ _ | exact Nat.le_refl _ | assumption | refine Below.drew ?_ | refine below_drewN ?_ _ | (refine Below.alloc ?_ (by first | exact Nat.le_refl _ | omega | (simp; done) | (simp; omega)) _) | (refine Below.setCell ?_ (by first | exact Nat.le_refl _ | omega | (simp; done) | (simp; omega)) _))
set_option maxHeartbeats 400000 in
theorem talkOn_start_body (n : Int) (ao bo : Option Addr) (c d : Nat) (ys : List Int) (w : World) (hv : talkB n 0 [] = true) (hy : Ints w bo ys) (hb : bodyB ys = false) (ly : ys.length ≤ 4611686018427387904) :
    Calls Try.prog 51 #[.agg #[.int .i64 n, .int .i64 0, .slice ao 0 c], .iface 74 (.agg #[.slice bo ys.length d])] w fun e w' => e = .returned (.tuple #[.agg #[.int .i64 0, .int .i64 0, .slice none 0 0], .bool false]) ∧ Below w.heap.size w w' := by
  have has := as_start
  have hx : Ints w ao [] := Cells.nil _ _
  go_enter Try.func51, Try.ntmps51
  go_wp2_with fail
  refine name_calls fun W hW => ?_
  have bW : Below w.heap.size w W := by
    rw [hW]
    repeat' (first | exact Below.refl _ _ | exact Nat.le_refl _ | assumption | refine Below.drew ?_ | refine below_drewN ?_ _ | (refine Below.alloc ?_ (by first | exact Nat.le_refl _ | omega | (simp; done) | (simp; omega)) _) | (refine Below.setCell ?_ (by first | exact Nat.le_refl _ | omega | (simp; done) | (simp; omega)) _))
  have h2 : W.heap[w.heap.size]? = some (.cells #[.int .i64 n, .int .i64 0, .slice ao 0 c] 25 (0, 0)) := by rw [hW, Below.heap_alloc _ _ _ (by simp)]; exact heap_new_at _ _ _ rfl
  have h4 : W.heap[w.heap.size + 1]? = some (.cells #[.int .i64 0, .int .i64 0, .slice none 0 0] 25 (0, 0)) := by rw [hW]; exact heap_new_at _ _ _ (by simp)
  have zW : W.heap.size = w.heap.size + 2 := by rw [hW]; simp
  clear hW
  refine (implTalkValid_any n 0 ao [] c W (hx.below bW) (by first | omega | simp)).mono ?_
  rintro e w1 ⟨rfl, b1⟩
  have B1 := bW.trans (b1.mono bW.size)
  have z1 : w.heap.size + 2 ≤ w1.heap.size := by rw [← zW]; exact b1.size
  have zz2 : w.heap.size < w1.heap.size := by omega
  have zz4 : w.heap.size + 1 < w1.heap.size := by omega
  have H2 := Lib.hid ((b1.block _ (by omega)).trans h2)
  have H4 := Lib.hid ((b1.block _ (by omega)).trans h4)
  have hx1 := hx.below B1
  obtain ⟨c20, c21, c22, f20, f21, f22⟩ := three_cells H2.out
  obtain ⟨c40, c41, c42, f40, f41, f42⟩ := three_cells H4.out
  clear h2 h4 zW hx b1 bW
  have hy1 := hy.below B1
  clear hx1 hy
  go_wp2_with fail
  refine (bodyValid_any bo ys d _ (hy1.keep (Keeps.alloc _ _)) (by omega)).mono ?_
  rintro e w2 ⟨rfl, b2⟩
  have b2' := b2.size
  simp only [World.size_alloc] at b2'
  have B2 : Below w.heap.size w w2 := (B1.alloc (by omega) _).trans (b2.mono (by simp; omega))
  clear c20 c21 c22 f20 f21 f22 c40 c41 c42 f40 f41 f42
  obtain ⟨c40, c41, c42, f40, f41, f42⟩ := three_cells ((b2.block _ (by simp; omega)).trans ((Below.heap_alloc w1 _ _ (by omega)).trans H4.out))
  clear hy1 b2 B1
  go_wp2
  refine bodyPost_ret (v := .tuple #[.agg #[.int .i64 0, .int .i64 0, .slice none 0 0], .bool false]) (by simp [results, Try.results51, go_sem, *]) rfl ?_
  refine ⟨rfl, ?_⟩
  repeat' (first | exact Below.refl _ _ | exact Nat.le_refl _ | assumption | refine Below.drew ?_ | refine below_drewN ?_ _ | (refine Below.alloc ?_ (by first | exact Nat.le_refl _ | omega | (simp; done) | (simp; omega)) _) | (refine Below.setCell ?_ (by first | exact Nat.le_refl _ | omega | (simp; done) | (simp; omega)) _))
set_option maxHeartbeats 400000 in
theorem talkOn_again_no (n tr : Int) (ao : Option Addr) (c : Nat) (xs : List Int) (w : World) (hv : talkB n tr xs = true) (ht : tr = 0 ∨ tr = 5) (hx : Ints w ao xs) (lx : xs.length ≤ 4611686018427387904) :
    Calls Try.prog 51 #[.agg #[.int .i64 n, .int .i64 tr, .slice ao xs.length c], .iface 70 (.agg #[])] w fun e w' => e = .returned (.tuple #[.agg #[.int .i64 0, .int .i64 0, .slice none 0 0], .bool false]) ∧ Below w.heap.size w w' := by
  have has := as_again
  have has' := as_again_no
  rcases ht with rfl | rfl
  · go_enter Try.func51, Try.ntmps51
    go_wp2_with fail
    refine name_calls fun W hW => ?_
    have bW : Below w.heap.size w W := by
      rw [hW]
      repeat' (first | exact Below.refl _ _ | exact Nat.le_refl _ | assumption | refine Below.drew ?_ | refine below_drewN ?_ _ | (refine Below.alloc ?_ (by first | exact Nat.le_refl _ | omega | (simp; done) | (simp; omega)) _) | (refine Below.setCell ?_ (by first | exact Nat.le_refl _ | omega | (simp; done) | (simp; omega)) _))
    have h2 : W.heap[w.heap.size]? = some (.cells #[.int .i64 n, .int .i64 0, .slice ao xs.length c] 25 (0, 0)) := by rw [hW, Below.heap_alloc _ _ _ (by simp)]; exact heap_new_at _ _ _ rfl
    have h4 : W.heap[w.heap.size + 1]? = some (.cells #[.int .i64 0, .int .i64 0, .slice none 0 0] 25 (0, 0)) := by rw [hW]; exact heap_new_at _ _ _ (by simp)
    have zW : W.heap.size = w.heap.size + 2 := by rw [hW]; simp
    clear hW
    refine (implTalkValid_any n 0 ao xs c W (hx.below bW) (by first | omega | simp)).mono ?_
    rintro e w1 ⟨rfl, b1⟩
    have B1 := bW.trans (b1.mono bW.size)
    have z1 : w.heap.size + 2 ≤ w1.heap.size := by rw [← zW]; exact b1.size
    have zz2 : w.heap.size < w1.heap.size := by omega
    have zz4 : w.heap.size + 1 < w1.heap.size := by omega
    have H2 := Lib.hid ((b1.block _ (by omega)).trans h2)
    have H4 := Lib.hid ((b1.block _ (by omega)).trans h4)
    have hx1 := hx.below B1
    obtain ⟨c20, c21, c22, f20, f21, f22⟩ := three_cells H2.out
    obtain ⟨c40, c41, c42, f40, f41, f42⟩ := three_cells H4.out
    clear h2 h4 zW hx b1 bW
    go_wp2
    refine bodyPost_ret (v := .tuple #[.agg #[.int .i64 0, .int .i64 0, .slice none 0 0], .bool false]) (by simp [results, Try.results51, go_sem, *]) rfl ?_
    refine ⟨rfl, ?_⟩
    repeat' (first | exact Below.refl _ _ | exact Nat.le_refl _ | assumption | refine Below.drew ?_ | refine below_drewN ?_ _ | (refine Below.alloc ?_ (by first | exact Nat.le_refl _ | omega | (simp; done) | (simp; omega)) _) | (refine Below.setCell ?_ (by first | exact Nat.le_refl _ | omega | (simp; done) | (simp; omega)) _))
  · go_enter Try.func51, Try.ntmps51
    go_wp2_with fail
    refine name_calls fun W hW => ?_
    have bW : Below w.heap.size w W := by
      rw [hW]
      repeat' (first | exact Below.refl _ _ | exact Nat.le_refl _ | assumption | refine Below.drew ?_ | refine below_drewN ?_ _ | (refine Below.alloc ?_ (by first | exact Nat.le_refl _ | omega | (simp; done) | (simp; omega)) _) | (refine Below.setCell ?_ (by first | exact Nat.le_refl _ | omega | (simp; done) | (simp; omega)) _))
    have h2 : W.heap[w.heap.size]? = some (.cells #[.int .i64 n, .int .i64 5, .slice ao xs.length c] 25 (0, 0)) := by rw [hW, Below.heap_alloc _ _ _ (by simp)]; exact heap_new_at _ _ _ rfl
    have h4 : W.heap[w.heap.size + 1]? = some (.cells #[.int .i64 0, .int .i64 0, .slice none 0 0] 25 (0, 0)) := by rw [hW]; exact heap_new_at _ _ _ (by simp)
    have zW : W.heap.size = w.heap.size + 2 := by rw [hW]; simp
    clear hW
    refine (implTalkValid_any n 5 ao xs c W (hx.below bW) (by first | omega | simp)).mono ?_
    rintro e w1 ⟨rfl, b1⟩
    have B1 := bW.trans (b1.mono bW.size)
    have z1 : w.heap.size + 2 ≤ w1.heap.size := by rw [← zW]; exact b1.size
    have zz2 : w.heap.size < w1.heap.size := by omega
    have zz4 : w.heap.size + 1 < w1.heap.size := by omega
    have H2 := Lib.hid ((b1.block _ (by omega)).trans h2)
    have H4 := Lib.hid ((b1.block _ (by omega)).trans h4)
    have hx1 := hx.below B1
    obtain ⟨c20, c21, c22, f20, f21, f22⟩ := three_cells H2.out
    obtain ⟨c40, c41, c42, f40, f41, f42⟩ := three_cells H4.out
    clear h2 h4 zW hx b1 bW
    go_wp2
    refine bodyPost_ret (v := .tuple #[.agg #[.int .i64 0, .int .i64 0, .slice none 0 0], .bool false]) (by simp [results, Try.results51, go_sem, *]) rfl ?_
    refine ⟨rfl, ?_⟩
    repeat' (first | exact Below.refl _ _ | exact Nat.le_refl _ | assumption | refine Below.drew ?_ | refine below_drewN ?_ _ | (refine Below.alloc ?_ (by first | exact Nat.le_refl _ | omega | (simp; done) | (simp; omega)) _) | (refine Below.setCell ?_ (by first | exact Nat.le_refl _ | omega | (simp; done) | (simp; omega)) _))
set_option maxHeartbeats 400000 in
theorem talkOn_answer_no (n tr k : Int) (ao : Option Addr) (c : Nat) (xs : List Int) (w : World) (hv : talkB n tr xs = true) (ht : tr = 0 ∨ (0 < tr ∧ k ≠ n)) (hx : Ints w ao xs) (lx : xs.length ≤ 4611686018427387904) :
    Calls Try.prog 51 #[.agg #[.int .i64 n, .int .i64 tr, .slice ao xs.length c], .iface 65 (.agg #[.int .i64 k])] w fun e w' => e = .returned (.tuple #[.agg #[.int .i64 0, .int .i64 0, .slice none 0 0], .bool false]) ∧ Below w.heap.size w w' := by
  have has := as_answer
  have has' := as_answer_no
  have has2 := as_answer_no2
  rcases ht with rfl | ⟨ht, hk⟩
  · go_enter Try.func51, Try.ntmps51
    go_wp2_with fail
    refine name_calls fun W hW => ?_
    have bW : Below w.heap.size w W := by
      rw [hW]
      repeat' (first | exact Below.refl _ _ | exact Nat.le_refl _ | assumption | refine Below.drew ?_ | refine below_drewN ?_ _ | (refine Below.alloc ?_ (by first | exact Nat.le_refl _ | omega | (simp; done) | (simp; omega)) _) | (refine Below.setCell ?_ (by first | exact Nat.le_refl _ | omega | (simp; done) | (simp; omega)) _))
    have h2 : W.heap[w.heap.size]? = some (.cells #[.int .i64 n, .int .i64 0, .slice ao xs.length c] 25 (0, 0)) := by rw [hW, Below.heap_alloc _ _ _ (by simp)]; exact heap_new_at _ _ _ rfl
    have h4 : W.heap[w.heap.size + 1]? = some (.cells #[.int .i64 0, .int .i64 0, .slice none 0 0] 25 (0, 0)) := by rw [hW]; exact heap_new_at _ _ _ (by simp)
    have zW : W.heap.size = w.heap.size + 2 := by rw [hW]; simp
    clear hW
    refine (implTalkValid_any n 0 ao xs c W (hx.below bW) (by first | omega | simp)).mono ?_
    rintro e w1 ⟨rfl, b1⟩
    have B1 := bW.trans (b1.mono bW.size)
    have z1 : w.heap.size + 2 ≤ w1.heap.size := by rw [← zW]; exact b1.size
    have zz2 : w.heap.size < w1.heap.size := by omega
    have zz4 : w.heap.size + 1 < w1.heap.size := by omega
    have H2 := Lib.hid ((b1.block _ (by omega)).trans h2)
    have H4 := Lib.hid ((b1.block _ (by omega)).trans h4)
    have hx1 := hx.below B1
    obtain ⟨c20, c21, c22, f20, f21, f22⟩ := three_cells H2.out
    obtain ⟨c40, c41, c42, f40, f41, f42⟩ := three_cells H4.out
    clear h2 h4 zW hx b1 bW
    go_wp2
    refine bodyPost_ret (v := .tuple #[.agg #[.int .i64 0, .int .i64 0, .slice none 0 0], .bool false]) (by simp [results, Try.results51, go_sem, *]) rfl ?_
    refine ⟨rfl, ?_⟩
    repeat' (first | exact Below.refl _ _ | exact Nat.le_refl _ | assumption | refine Below.drew ?_ | refine below_drewN ?_ _ | (refine Below.alloc ?_ (by first | exact Nat.le_refl _ | omega | (simp; done) | (simp; omega)) _) | (refine Below.setCell ?_ (by first | exact Nat.le_refl _ | omega | (simp; done) | (simp; omega)) _))
  · have hb : (k != n) = true := by simpa using hk
    clear hk
    go_enter Try.func51, Try.ntmps51
    go_wp2_with fail
    refine name_calls fun W hW => ?_
    have bW : Below w.heap.size w W := by
      rw [hW]
      repeat' (first | exact Below.refl _ _ | exact Nat.le_refl _ | assumption | refine Below.drew ?_ | refine below_drewN ?_ _ | (refine Below.alloc ?_ (by first | exact Nat.le_refl _ | omega | (simp; done) | (simp; omega)) _) | (refine Below.setCell ?_ (by first | exact Nat.le_refl _ | omega | (simp; done) | (simp; omega)) _))
    have h2 : W.heap[w.heap.size]? = some (.cells #[.int .i64 n, .int .i64 tr, .slice ao xs.length c] 25 (0, 0)) := by rw [hW, Below.heap_alloc _ _ _ (by simp)]; exact heap_new_at _ _ _ rfl
    have h4 : W.heap[w.heap.size + 1]? = some (.cells #[.int .i64 0, .int .i64 0, .slice none 0 0] 25 (0, 0)) := by rw [hW]; exact heap_new_at _ _ _ (by simp)
    have zW : W.heap.size = w.heap.size + 2 := by rw [hW]; simp
    clear hW
    refine (implTalkValid_any n tr ao xs c W (hx.below bW) (by first | omega | simp)).mono ?_
    rintro e w1 ⟨rfl, b1⟩
    have B1 := bW.trans (b1.mono bW.size)
    have z1 : w.heap.size + 2 ≤ w1.heap.size := by rw [← zW]; exact b1.size
    have zz2 : w.heap.size < w1.heap.size := by omega
    have zz4 : w.heap.size + 1 < w1.heap.size := by omega
    have H2 := Lib.hid ((b1.block _ (by omega)).trans h2)
    have H4 := Lib.hid ((b1.block _ (by omega)).trans h4)
    have hx1 := hx.below B1
    obtain ⟨c20, c21, c22, f20, f21, f22⟩ := three_cells H2.out
    obtain ⟨c40, c41, c42, f40, f41, f42⟩ := three_cells H4.out
    clear h2 h4 zW hx b1 bW
    go_wp2
    refine bodyPost_ret (v := .tuple #[.agg #[.int .i64 0, .int .i64 0, .slice none 0 0], .bool false]) (by simp [results, Try.results51, go_sem, *]) rfl ?_
    refine ⟨rfl, ?_⟩
    repeat' (first | exact Below.refl _ _ | exact Nat.le_refl _ | assumption | refine Below.drew ?_ | refine below_drewN ?_ _ | (refine Below.alloc ?_ (by first | exact Nat.le_refl _ | omega | (simp; done) | (simp; omega)) _) | (refine Below.setCell ?_ (by first | exact Nat.le_refl _ | omega | (simp; done) | (simp; omega)) _))
end Go.Proofs.Ytjamcfnclnpdkaa
