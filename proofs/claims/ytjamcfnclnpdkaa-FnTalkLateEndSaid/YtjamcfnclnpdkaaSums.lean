/- Sums of bytes: both walks give one function of the list. -/
import Derived.Test.YtjamcfnclnpdkaaBytes
import Derived.Deep.RegionHeld3
namespace Go.Proofs.Ytjamcfnclnpdkaa
open Go.RowKit

def sumStep (s : Int × Int) (b : Int) : Int × Int := ((s.1 + b) % 255, (s.2 + (s.1 + b) % 255) % 255)
def sumL (xs : List Int) : Int × Int := xs.foldl sumStep (1, 0)
theorem sumL_snoc (xs : List Int) (x : Int) : sumL (xs ++ [x]) = sumStep (sumL xs) x := by simp [sumL, List.foldl_append]
theorem sumL_take {xs : List Int} {k : Nat} {x : Int} (h : xs[k]? = some x) : sumL (xs.take (k + 1)) = sumStep (sumL (xs.take k)) x := by
  rw [take_succ_of h, sumL_snoc]
theorem sumL_bd (xs : List Int) : 0 ≤ (sumL xs).1 ∧ (sumL xs).1 < 255 ∧ 0 ≤ (sumL xs).2 ∧ (sumL xs).2 < 255 := by
  rcases List.eq_nil_or_concat xs with rfl | ⟨l, x, rfl⟩
  · simp [sumL]
  · rw [List.concat_eq_append, sumL_snoc]; simp only [sumStep]; omega
theorem byte_at {xs : List Int} (hb : bytesB xs = true) {k : Nat} {x : Int} (h : xs[k]? = some x) : 0 ≤ x ∧ x ≤ 255 := by
  have := List.all_eq_true.1 hb x (List.mem_of_getElem? h)
  simpa [byteB] using this

theorem sumsOf1_any (a b x : Int) (w : World) (ha : 0 ≤ a) (ha1 : a < 255) (hb : 0 ≤ b) (hb1 : b < 255) (hx : 0 ≤ x) (hx1 : x ≤ 255) :
    Calls Try.prog 60 #[.agg #[.int .i64 a, .int .i64 b], .int .i64 x] w fun e w' => e = .returned (.agg #[.int .i64 (sumStep (a, b) x).1, .int .i64 (sumStep (a, b) x).2]) ∧ Below w.heap.size w w' := by
  go_enter Try.func60, Try.ntmps60
  go_wp2
  refine bodyPost_ret (v := .agg #[.int .i64 (sumStep (a, b) x).1, .int .i64 (sumStep (a, b) x).2]) (by simp [results, Try.results60, go_sem, sumStep]) rfl ?_
  refine ⟨rfl, ?_⟩
  repeat' (first | exact Below.refl _ _ | exact Nat.le_refl _ | assumption | refine Below.drew ?_ | refine below_drewN ?_ _ | (refine Below.alloc ?_ (by first | exact Nat.le_refl _ | omega | (simp; done) | (simp; omega)) _) | (refine Below.setCell ?_ (by first | exact Nat.le_refl _ | omega | (simp; done) | (simp; omega)) _))

theorem heap_new_at (w : World) (o : Obj) (g : Nat) (h : g = w.heap.size) : (w.alloc o).heap[g]? = some o := h ▸ heap_alloc_new w o
theorem two_cells {w : World} {b : Nat} {u v : Value} {t : TypeId} (h : w.heap[b]? = some (.cells #[u, v] t (0, 0))) : w.cell? ⟨b, 0, none⟩ = some u ∧ w.cell? ⟨b, 1, none⟩ = some v ∧ w.frozen? ⟨b, 0, none⟩ = false ∧ w.frozen? ⟨b, 1, none⟩ = false := by
  simp [World.cell?, World.frozen?, h]
theorem two_set {w : World} {b : Nat} {u v : Value} {t : TypeId} (h : w.heap[b]? = some (.cells #[u, v] t (0, 0))) (x y : Value) : ((w.setCell ⟨b, 0, none⟩ x).setCell ⟨b, 1, none⟩ y).heap[b]? = some (.cells #[x, y] t (0, 0)) := by
  simp [World.setCell, Array.getElem?_modify, h]

set_option maxHeartbeats 400000 in
theorem fold_any (ao : Option Addr) (xs : List Int) (c : Nat) (w : World) (hx : Ints w ao xs) (lx : xs.length ≤ 1048576) (hb : bytesB xs = true) :
    Calls Try.prog 59 #[.slice ao xs.length c, .agg #[.int .i64 1, .int .i64 0], .func (.func 60) #[] #[]] w fun e w' => e = .returned (.agg #[.int .i64 (sumL xs).1, .int .i64 (sumL xs).2]) ∧ Below w.heap.size w w' := by
  have HB := Lib.hid hb
  clear hb
  go_enter Try.func59, Try.ntmps59
  go_wp2
  refine name_wp fun W hW => ?_
  have hbW : Below w.heap.size w W := by
    rw [hW]
    repeat' (first | exact Below.refl _ _ | exact Nat.le_refl _ | assumption | refine Below.drew ?_ | refine below_drewN ?_ _ | (refine Below.alloc ?_ (by first | exact Nat.le_refl _ | omega | (simp; done) | (simp; omega)) _) | (refine Below.setCell ?_ (by first | exact Nat.le_refl _ | omega | (simp; done) | (simp; omega)) _))
  have hzW : W.heap.size = w.heap.size + 3 := by rw [hW]; simp
  have h2 : W.heap[w.heap.size + 1 + 1]? = some (.cells #[.int .i64 1, .int .i64 0] 67 (0, 0)) := by rw [hW]; exact heap_new_at _ _ _ (by simp)
  have h1 : W.heap[w.heap.size + 1]? = some (.cells #[.int .i64 0, .int .i64 0] 67 (0, 0)) := by rw [hW, Below.heap_alloc _ _ _ (by simp)]; exact heap_new_at _ _ _ (by simp)
  clear hW
  go_loopw [13] (fun i wr => ∃ k : Nat, k ≤ xs.length ∧ i = .int .i64 k ∧ Below (w.heap.size + 2) W wr ∧ wr.heap[w.heap.size + 1 + 1]? = some (.cells #[.int .i64 (sumL (xs.take k)).1, .int .i64 (sumL (xs.take k)).2] 67 (0, 0))) (fun i _ => xs.length - (intOf i).toNat)
  case atStart => exact ⟨0, Nat.zero_le _, rfl, Below.refl _ _, by simpa [sumL] using h2⟩
  case round =>
    obtain ⟨k, hk, rfl, hbr, hh⟩ := hrel
    have HZ := Lib.hid hzW
    have hB := hbW.trans (hbr.mono (by omega))
    have hz := hbr.size
    clear hzW h2
    obtain ⟨c0, c1, f0, f1⟩ := two_cells hh
    by_cases hlt : k < xs.length
    · obtain ⟨b, off, x, rfl, ex, x0⟩ := (hx.below hB).at_ hlt
      have bx := byte_at HB.out ex
      have EX := Lib.hid ex
      have bd := sumL_bd (xs.take k)
      have HH := Lib.hid hh
      clear ex hx hh h1
      have e1 := sumL_take EX.out
      rw [show sumL (xs.take k) = ((sumL (xs.take k)).1, (sumL (xs.take k)).2) from rfl] at e1
      have E1 := Lib.hid e1
      clear e1
      go_wp2_with fail
      refine (sumsOf1_any _ _ x _ bd.1 bd.2.1 bd.2.2.1 bd.2.2.2 bx.1 bx.2).mono ?_
      rintro e w1 ⟨rfl, b1⟩
      have hlt2 : w.heap.size + 1 + 1 < wr.heap.size := by have := HZ.out; omega
      have hh1 := (b1.block _ hlt2).trans HH.out
      obtain ⟨d0, d1, g0, g1⟩ := two_cells hh1
      have HH1 := Lib.hid hh1
      clear hh1
      go_wp2
      go_roundw
      case rel => exact ⟨k + 1, by omega, by go_num, (hbr.trans (b1.mono (by omega))).setCell (by simp) _ |>.setCell (by simp) _, by rw [E1.out]; exact two_set HH1.out _ _⟩
      case measure => simp [intOf]; omega
    · have he : k = xs.length := by omega
      have hh1 := (hbr.block (w.heap.size + 1) (by omega)).trans h1
      obtain ⟨d0, d1, g0, g1⟩ := two_cells hh1
      have E := Lib.hid he
      clear he hh hh1 h1
      go_wp2
      refine bodyPost_ret (v := .agg #[.int .i64 (sumL xs).1, .int .i64 (sumL xs).2]) (by have e := E.out; rw [e, List.take_length]; simp [results, Try.results59, go_sem, *]) rfl ?_
      refine ⟨rfl, ?_⟩
      repeat' (first | exact Below.refl _ _ | exact Nat.le_refl _ | assumption | refine Below.drew ?_ | refine below_drewN ?_ _ | (refine Below.alloc ?_ (by first | exact Nat.le_refl _ | omega | (simp; done) | (simp; omega)) _) | (refine Below.setCell ?_ (by first | exact Nat.le_refl _ | omega | (simp; done) | (simp; omega)) _))

theorem sumsOf_any (ao : Option Addr) (xs : List Int) (c : Nat) (w : World) (hx : Ints w ao xs) (lx : xs.length ≤ 1048576) (hb : bytesB xs = true) :
    Calls Try.prog 54 #[.slice ao xs.length c] w fun e w' => e = .returned (.agg #[.int .i64 (sumL xs).1, .int .i64 (sumL xs).2]) ∧ Below w.heap.size w w' := by
  have b0 : Below w.heap.size w (w.alloc (.cells #[.int .i64 0, .int .i64 0] 67)) := (Below.refl _ _).alloc (Nat.le_refl _) _
  have B0 := Lib.hid b0
  have hx0 := hx.below b0
  have HB := Lib.hid hb
  clear b0 hb
  go_enter Try.func54, Try.ntmps54
  go_wp2_with fail
  refine (fold_any ao xs c _ hx0 lx HB.out).mono ?_
  rintro e w1 ⟨rfl, b1⟩
  have kc1 : w1.cell? ⟨w.heap.size, 0, none⟩ = some (.int .i64 0) := (Keeps.of_below b1) _ _ _ (by simp [go_sem])
  have kf1 : w1.frozen? ⟨w.heap.size, 0, none⟩ = false := (Below.hot b1 (by simp [go_sem])).trans (by simp [go_sem])
  have kc2 : w1.cell? ⟨w.heap.size, 1, none⟩ = some (.int .i64 0) := (Keeps.of_below b1) _ _ _ (by simp [go_sem])
  have kf2 : w1.frozen? ⟨w.heap.size, 1, none⟩ = false := (Below.hot b1 (by simp [go_sem])).trans (by simp [go_sem])
  go_wp2
  refine bodyPost_ret (v := .agg #[.int .i64 (sumL xs).1, .int .i64 (sumL xs).2]) (by simp [results, Try.results54, go_sem, *]) rfl ?_
  refine ⟨rfl, ?_⟩
  have := below_join B0.out b1
  repeat' (first | exact Below.refl _ _ | exact Nat.le_refl _ | assumption | refine Below.drew ?_ | refine below_drewN ?_ _ | (refine Below.alloc ?_ (by first | exact Nat.le_refl _ | omega | (simp; done) | (simp; omega)) _) | (refine Below.setCell ?_ (by first | exact Nat.le_refl _ | omega | (simp; done) | (simp; omega)) _))

theorem l32Sum_any (ao : Option Addr) (xs : List Int) (c : Nat) (w : World) (hx : Ints w ao xs) (lx : xs.length ≤ 1048576) (hb : bytesB xs = true) :
    Calls Try.prog 57 #[.slice ao xs.length c] w fun e w' => e = .returned (.tuple #[.int .i64 (sumL xs).1, .int .i64 (sumL xs).2]) ∧ w = w' := by
  have HB := Lib.hid hb
  clear hb
  go_enter Try.func57, Try.ntmps57
  go_wp2
  go_loop [4, 5, 6] (fun a b i => ∃ k : Nat, k ≤ xs.length ∧ i = .int .i64 k ∧ a = .int .i64 (sumL (xs.take k)).1 ∧ b = .int .i64 (sumL (xs.take k)).2) (fun _ _ i => xs.length - (intOf i).toNat)
  case atStart => exact ⟨0, Nat.zero_le _, rfl, rfl, rfl⟩
  case round =>
    obtain ⟨k, hk, rfl, rfl, rfl⟩ := hrel
    by_cases hlt : k < xs.length
    · obtain ⟨b, off, x, rfl, ex, x0⟩ := hx.at_ hlt
      have bx := byte_at HB.out ex
      have EX := Lib.hid ex
      have bd := sumL_bd (xs.take k)
      clear ex hx
      go_wp2
      go_round
      case rel => exact ⟨k + 1, by omega, by go_num, by rw [sumL_take EX.out]; rfl, by rw [sumL_take EX.out]; simp [sumStep]⟩
      case measure => simp [intOf]; omega
    · have he : k = xs.length := by omega
      go_wp2
      go_ret2
      exact ⟨rfl, rfl⟩

def sumPutL (xs : List Int) : List Int := xs ++ [(sumL xs).1, (sumL xs).2]
theorem sumPutL_length (xs : List Int) : (sumPutL xs).length = xs.length + 2 := by simp [sumPutL]

set_option maxHeartbeats 1000000 in
theorem implSumPut_yes (ao : Option Addr) (xs : List Int) (c : Nat) (w : World) (hx : Ints w ao xs) (h1 : xs.length ≤ 18) (h0 : 0 < xs.length) (hb : bytesB xs = true) :
    Calls Try.prog 61 #[.slice ao xs.length c] w fun e w' => ∃ ao' c', e = .returned (.tuple #[.slice ao' (xs.length + 2) c', .bool true]) ∧ OwnI w' w.heap.size ao' c' (sumPutL xs) ∧ Below w.heap.size w w' := by
  have hA : ao = none → xs.length = 0 ∧ c = 0 := by
    rintro rfl
    rcases hx with h | ⟨b, off, h, _⟩
    · simp at h; subst h; simp at h0
    · cases h
  have HA := Lib.hid hA
  have h2 : (xs.length : Int) ≤ 18 := by omega
  clear hA
  go_enter Try.func61, Try.ntmps61
  go_wp2_with fail
  refine (allBytes_any ao xs c w hx (by omega)).mono ?_
  rintro e w1 ⟨rfl, b1⟩
  go_wp2_with fail
  refine (sumsOf_any ao xs c w1 (hx.below b1) (by omega) hb).mono ?_
  rintro e w2 ⟨rfl, b2⟩
  have B2 := below_join b1 b2
  have hx2 := hx.below B2
  clear b1 b2 hx
  go_wp2_with fail
  refine name_wp fun W hW => ?_
  have BW : Below w.heap.size w W := by
    rw [hW]
    exact B2.alloc B2.size _
  have hh : W.heap[w2.heap.size]? = some (.cells #[.int .i64 (sumL xs).1, .int .i64 (sumL xs).2] 67 (0, 0)) := by rw [hW]; exact heap_new_at _ _ _ rfl
  have hxW : Ints W ao xs := by rw [hW]; exact hx2.keep (Keeps.alloc _ _)
  clear hW hx2 B2
  obtain ⟨c0, c1, _, _⟩ := two_cells hh
  have HS : ∀ v, Below W.heap.size W v → v.cell? ⟨w2.heap.size, 0, none⟩ = some (.int .i64 (sumL xs).1) ∧ v.cell? ⟨w2.heap.size, 1, none⟩ = some (.int .i64 (sumL xs).2) ∧ Below W.heap.size W v := fun v hv => ⟨Keeps.of_below hv _ _ _ c0, Keeps.of_below hv _ _ _ c1, hv⟩
  have HS' := Lib.hid HS
  clear HS hh
  go_region_held3 (fun v => v.cell? ⟨w2.heap.size, 0, none⟩ = some (.int .i64 (sumL xs).1) ∧ v.cell? ⟨w2.heap.size, 1, none⟩ = some (.int .i64 (sumL xs).2) ∧ Below W.heap.size W v)
    ((refine HS'.out _ ?_; go_split_ands; repeat (first | assumption | exact Below.refl _ _ | refine Below.drew ?_ | refine below_alloc2 ?_ _)))
    (first
      | (refine step_append_nil (by rfl) _ _ _ (by rfl) W.heap.size 3 _ 1 8 Try.underlying23 int_info rfl (by decide) (by rfl) ao xs.length c (xs.map (Value.int .i64)) (by rfl) ?hn (by simp) ?h1 HA.out (by simp only [maxLen]; omega) (by omega) ?hb ?_
         case hn => (go_split_ands; exact hxW.below (by assumption))
         case hb => (go_split_ands; exact Below.size (by assumption))
         case h1 => (simp [Value.oneCell'])
         intro a1 d1 w3 ho3 hg3
         have hb3 : Below W.heap.size W w3 := (by go_split_ands; exact below_nil (by assumption) hg3))
      | (refine step_append_row (by rfl) _ _ _ (by rfl) W.heap.size 3 _ 1 8 Try.underlying23 int_info rfl (by decide) a1 xs.length d1 (xs.map (Value.int .i64)) (by rfl) ?ho (some ⟨_, 0, none⟩) 2 2 [.int .i64 (sumL xs).1, .int .i64 (sumL xs).2] (by rfl) ?hn (by rfl) ?h1 (by simp) (by simp only [maxLen]; omega) (by omega) ?hb ?_
         case ho => first | exact ho3 | exact ho3.alloc _
         case hn => first | exact cells_new _ #[.int .i64 (sumL xs).1, .int .i64 (sumL xs).2] _ rfl | exact (Cells.drew (cells_new W #[.int .i64 (sumL xs).1, .int .i64 (sumL xs).2] _ rfl)).keep (keeps_nil hg3)
         case hb => (go_split_ands; exact Below.size (by assumption))
         case h1 => (simp [Value.oneCell'])
         intro a4 d4 w4 ho4 hg4
         have hb4 : Below W.heap.size W w4 := (by go_split_ands; first | exact below_row (by assumption) ho3 hg4 | exact below_row (by assumption) (ho3.alloc _) hg4)))
  all_goals
    go_wp2
    go_ret2
    have hz := BW.size
    exact ⟨a4, d4, rfl, by simpa [OwnI, sumPutL, List.map_append] using own_base ho4 hz, BW.trans (hb4.mono hz)⟩

theorem ints_nil_cap {w : World} {ao : Option Addr} {xs : List Int} {c : Nat} (hx : Ints w ao xs) (h0 : 0 < xs.length) : ao = none → xs.length = 0 ∧ c = 0 := by
  rintro rfl
  rcases hx with h | ⟨b, off, h, _⟩
  · simp at h; subst h; simp at h0
  · cases h

set_option maxHeartbeats 1000000 in
theorem specSumPut_yes (ao : Option Addr) (xs : List Int) (c : Nat) (w : World) (hx : Ints w ao xs) (h1 : xs.length ≤ 18) (h0 : 0 < xs.length) (hb : bytesB xs = true) :
    Calls Try.prog 62 #[.slice ao xs.length c] w fun e w' => ∃ ao' c', e = .returned (.tuple #[.slice ao' (xs.length + 2) c', .bool true]) ∧ OwnI w' w.heap.size ao' c' (sumPutL xs) ∧ Below w.heap.size w w' := by
  have HA := Lib.hid (ints_nil_cap (c := c) hx h0)
  have h2 : (xs.length : Int) ≤ 18 := by omega
  go_enter Try.func62, Try.ntmps62
  go_wp2_with fail
  refine (l4Bytes_any ao xs c w hx (by omega)).mono ?_
  rintro e w1 ⟨rfl, b1⟩
  have hx1 := hx.below b1
  clear hx
  go_wp2_with fail
  refine (l32Sum_any ao xs c w1 hx1 (by omega) hb).mono ?_
  rintro e w2 ⟨rfl, rfl⟩
  go_wp2_with (first
    | (at_builtin
       refine name_list fun W hW => ?_
       have hoW : W.ownsRow w.heap.size 3 1 (.slice (some ⟨w1.heap.size, 0, none⟩) 0 0) 0 [] := (by rw [hW]; exact World.ownsRow_made w1 #[] 0 b1.size (by simp) (by simp))
       have hxW : Ints W ao xs := (by rw [hW]; exact hx1.keep (Keeps.alloc _ _))
       have bW : Below w.heap.size w W := (by rw [hW]; exact b1.alloc b1.size _)
       refine wpList_append_row W rfl _ _ _ rfl w.heap.size 3 _ 1 8 Try.underlying23 int_info rfl (by decide) (some ⟨w1.heap.size, 0, none⟩) 0 0 [] (by rfl) hoW ao xs.length c (xs.map (Value.int .i64)) (by rfl) hxW (by simp) (by simp [Value.oneCell']) HA.out (by simp only [maxLen]; omega) (by omega) bW.size ?_
       intro a1 d1 w3 ho3 hg3
       rw [Nat.zero_add, List.nil_append] at ho3
       have b3 := below_append bW hoW hg3 bW.size
       rw [Nat.zero_add]
       clear hW hoW hxW)
    | (at_builtin
       refine name_list fun W hW => ?_
       have hoW : W.ownsRow w.heap.size 3 1 (.slice a1 xs.length d1) xs.length (xs.map (Value.int .i64)) := (by rw [hW]; exact ho3.alloc _)
       have hcW : Cells W (some ⟨w3.heap.size, 0, none⟩) [.int .i64 (sumL xs).1, .int .i64 (sumL xs).2] := (by rw [hW]; exact cells_new _ #[.int .i64 (sumL xs).1, .int .i64 (sumL xs).2] _ rfl)
       have bW' : Below w.heap.size w W := (by rw [hW]; exact b3.alloc b3.size _)
       refine wpList_append_row W rfl _ _ _ rfl w.heap.size 3 _ 1 8 Try.underlying23 int_info rfl (by decide) a1 xs.length d1 (xs.map (Value.int .i64)) (by rfl) hoW (some ⟨w3.heap.size, 0, none⟩) 2 2 [.int .i64 (sumL xs).1, .int .i64 (sumL xs).2] (by rfl) hcW (by rfl) (by simp [Value.oneCell']) (by simp) (by simp only [maxLen]; omega) (by omega) bW'.size ?_
       intro a4 d4 w4 ho4 hg4
       have b4 := below_append bW' hoW hg4 bW'.size
       clear hW hoW hcW))
  go_ret2
  exact ⟨a4, d4, rfl, by simpa [OwnI, sumPutL, List.map_append] using ho4, b4⟩

def sumTakeB (xs : List Int) : Bool := bytesB xs && (decide (2 ≤ xs.length ∧ xs.length ≤ 20) && decide (xs.drop (xs.length - 2) = [(sumL (xs.take (xs.length - 2))).1, (sumL (xs.take (xs.length - 2))).2]))
noncomputable def sumTakeL (xs : List Int) : List Int := if sumTakeB xs then xs.take (xs.length - 2) else []
theorem sumTakeL_no {xs : List Int} (h : sumTakeB xs = false) : sumTakeL xs = [] := by simp [sumTakeL, h]
theorem sumTakeB_len {xs : List Int} (h : ¬ (2 ≤ xs.length ∧ xs.length ≤ 20)) : sumTakeB xs = false := by simp [sumTakeB, h]
theorem sumTakeB_bytes {xs : List Int} (h : bytesB xs = false) : sumTakeB xs = false := by simp [sumTakeB, h]
theorem drop_two {xs : List Int} {n : Nat} {u v : Int} (hn : xs.length = n + 2) (hu : xs[n]? = some u) (hv : xs[n + 1]? = some v) : xs.drop n = [u, v] := by
  apply List.ext_getElem?
  intro j
  rw [List.getElem?_drop]
  match j with
  | 0 => simpa using hu
  | 1 => simpa using hv
  | k + 2 => rw [List.getElem?_eq_none (by omega)]; simp
theorem sumTakeB_n {xs : List Int} {n : Nat} {u v : Int} (hb : bytesB xs = true) (hn : xs.length = n + 2) (h20 : n ≤ 18) (hu : xs[n]? = some u) (hv : xs[n + 1]? = some v) :
    sumTakeB xs = decide ((sumL (xs.take n)).1 = u ∧ (sumL (xs.take n)).2 = v) := by
  unfold sumTakeB
  rw [hb, hn, Nat.add_sub_cancel, drop_two hn hu hv, decide_eq_true (show 2 ≤ n + 2 ∧ n + 2 ≤ 20 by omega), Bool.true_and, Bool.true_and]
  refine decide_eq_decide.2 ⟨fun h => ?_, fun h => by rw [h.1, h.2]⟩
  injection h with h1 h2
  injection h2 with h2
  exact ⟨h1.symm, h2.symm⟩
theorem sumTakeL_n {xs : List Int} {n : Nat} (hn : xs.length = n + 2) (h : sumTakeB xs = true) : sumTakeL xs = xs.take n := by
  unfold sumTakeL; rw [if_pos h, hn, Nat.add_sub_cancel]
theorem bytesB_take {xs : List Int} (h : bytesB xs = true) (n : Nat) : bytesB (xs.take n) = true := by
  unfold bytesB at *
  rw [List.all_eq_true] at *
  exact fun x hx => h x (List.mem_of_mem_take hx)
theorem Ints.take {w : World} {ao : Option Addr} {xs : List Int} (h : Ints w ao xs) (n : Nat) : Ints w ao (xs.take n) := by
  rcases h with h | ⟨b, off, h, hc⟩
  · left; simp at h; simp [h]
  · refine .inr ⟨b, off, h, fun j u hu => hc j u ?_⟩
    rw [List.map_take, List.getElem?_take] at hu
    split at hu
    · exact hu
    · cases hu

def pairEq (a b c d : Int) : Bool := a == c && b == d
theorem pairEq_dec (a b c d : Int) : pairEq a b c d = decide (a = c ∧ b = d) := by rw [Bool.eq_iff_iff]; simp [pairEq]
theorem eq_two (a b c d : Int) (w : World) : (Op.equalIn 10000 67 (.agg #[.int .i64 a, .int .i64 b]) (.agg #[.int .i64 c, .int .i64 d])).run Try.prog w = .ok (pairEq a b c d) w := by
  have u3 := Try.underlying3
  have a3 := Try.isAgg3
  have z3 := Try.sizeOf3
  rw [show (10000 : Nat) = 9999 + 1 from rfl, Op.equalIn]
  simp only [Sem.run_bind, run_underlying Try.underlying67, Result.andThen_ok]
  simp only [Std.Legacy.Range.forIn_eq_forIn_range', Std.Legacy.Range.size, Nat.sub_zero, Nat.add_sub_cancel, Nat.div_one, List.range'_succ, List.range'_zero, List.forIn_cons, List.forIn_nil]
  go_simp
  by_cases h1 : a = c <;> by_cases h2 : b = d <;> simp [h1, h2, pairEq]
set_option maxHeartbeats 1000000 in
theorem implSumTake_n (ao : Option Addr) (xs : List Int) (n c : Nat) (w : World) (hx : Ints w ao xs) (hn : xs.length = n + 2) (h20 : n ≤ 18) (hc : n + 2 ≤ c) (_hc2 : xs.length ≤ 4611686018427387904) (hb : bytesB xs = true) :
    Calls Try.prog 35 #[.slice ao (n + 2) c] w fun e w' => ∃ ao' c', e = .returned (.tuple #[.slice ao' (sumTakeL xs).length c', .bool (sumTakeB xs)]) ∧ OwnI w' w.heap.size ao' c' (sumTakeL xs) ∧ Below w.heap.size w w' := by
  have hax := allBytes_any ao xs c w hx (by omega)
  rw [hn] at hax
  have hux : xs[n]? = some xs[n] := List.getElem?_eq_getElem (by omega)
  have hvx : xs[n + 1]? = some (xs[n + 1]'(by omega)) := List.getElem?_eq_getElem (by omega)
  generalize xs[n] = u at hux
  generalize (xs[n + 1]'(by omega)) = v at hvx
  have hB := sumTakeB_n hb hn h20 hux hvx
  have hL := @sumTakeL_n xs n hn
  have hl : (xs.take n).length = n := by rw [List.length_take]; omega
  have hb' := bytesB_take hb n
  have HN := Lib.hid hn
  have HB := Lib.hid hB
  have HL := Lib.hid hL
  have HX := Lib.hid hux
  have HV := Lib.hid hvx
  clear hB hL hn hux hvx
  have h2 : (n : Int) ≤ 18 := by omega
  obtain ⟨b, off, rfl, _⟩ : ∃ b off, ao = some ⟨b, off, none⟩ ∧ True := by
    obtain ⟨b, off, x, h, _⟩ := hx.at_ (k := 0) (by have := HN.out; omega)
    exact ⟨b, off, h, trivial⟩
  have hcu : w.cell? ⟨b, off + n, none⟩ = some (.int .i64 u) := by
    obtain ⟨b', off', x, h, hxx, hc⟩ := hx.at_ (k := n) (by have := HN.out; omega)
    rw [HX.out] at hxx
    cases hxx; cases h; exact hc
  have hcv : w.cell? ⟨b, off + (n + 1), none⟩ = some (.int .i64 v) := by
    obtain ⟨b', off', x, h, hxx, hc⟩ := hx.at_ (k := n + 1) (by have := HN.out; omega)
    rw [HV.out] at hxx
    cases hxx; cases h; exact hc
  rw [← Nat.add_assoc] at hcv
  go_enter Try.func35, Try.ntmps35
  go_wp2_with fail
  refine hax.mono ?_
  rintro e w1 ⟨rfl, b1⟩
  go_wp2_with fail
  refine name_wp fun W hW => ?_
  obtain rfl : W = w1 := hW
  have kW := Keeps.of_below b1
  have hsum : ∀ p : After W, Calls Try.prog 54 #[.slice (some ⟨b, off, none⟩) n c] p.w fun e w' => e = .returned (.agg #[.int .i64 (sumL (xs.take n)).1, .int .i64 (sumL (xs.take n)).2]) ∧ Below p.w.heap.size p.w w' := fun p => by
    have := sumsOf_any (some ⟨b, off, none⟩) (xs.take n) c p.w ((hx.take n).keep (kW.trans p.keep)) (by omega) hb'
    rw [hl] at this
    exact this
  have hcu' : ∀ p : After W, p.w.cell? ⟨b, off + n, none⟩ = some (.int .i64 u) := fun p => p.cell (kW _ _ _ hcu)
  have hcv' : ∀ p : After W, p.w.cell? ⟨b, off + n + 1, none⟩ = some (.int .i64 v) := fun p => p.cell (kW _ _ _ hcv)
  have HS := Lib.hid hsum
  have Hl := Lib.hid hl
  clear hsum hl hcu hcv hax
  have hat : ∀ v : World, (Instr.arrayAt 67 (.slice (some ⟨b, off + n, none⟩) 2 (c - n))).run Try.prog v = .ok (.pointer (some ⟨b, off + n, none⟩)) v := fun v => run_arrayAt v _ _ 2 _ _ _ Try.underlying67 (Nat.le_refl _)
  have heq := fun v' : World => eq_two (sumL (xs.take n)).1 (sumL (xs.take n)).2 u v v'
  have HP : Hid (sumTakeB xs = pairEq (sumL (xs.take n)).1 (sumL (xs.take n)).2 u v) := Lib.hid (by rw [pairEq_dec]; exact HB.out)
  cases hq : pairEq (sumL (xs.take n)).1 (sumL (xs.take n)).2 u v
  · have HQ := Lib.hid (HP.out.trans hq)
    refine wp_region_after (by kernel_rfl) (by kernel_rfl) ?_
    repeat (go_big_quiet_step (((go_at_call 54; exact After.call (HS.out _)))))
    refine wpQuiet_nil ?_
    intro p
    go_wp2
    go_ret2
    have hb2 := below_join b1 p.below
    rw [HQ.out, sumTakeL_no HQ.out]
    exact ⟨none, 0, rfl, World.ownsRow_nil _ _ _ _, hb2⟩
  · have HQ := Lib.hid (HP.out.trans hq)
    refine wp_region_after (by kernel_rfl) (by kernel_rfl) ?_
    repeat (go_big_quiet_step (((go_at_call 54; exact After.call (HS.out _)))))
    refine wpQuiet_nil ?_
    intro p
    have hxt := ((hx.take n).keep (kW.trans p.keep))
    have hb2 := below_join b1 p.below
    go_wp2_with (
      at_builtin
      refine wpList_append_nil _ rfl _ _ _ rfl w.heap.size 3 _ 1 8 Try.underlying23 int_info rfl (by decide) (by rfl) (some ⟨b, off, none⟩) n c ((xs.take n).map (Value.int .i64)) (by rfl) hxt (by rw [List.length_map, Hl.out, Nat.mul_one]) (ints_one _) (by simp) (by simp only [maxLen]; omega) (by omega) hb2.size ?_
      intro a3 d3 w3 ho3 hg3
      have b3 := hb2.grown hg3 hb2.size (fun k hk => by cases hk))
    go_ret2
    refine ⟨a3, d3, ?_, ?_, b3⟩
    · rw [HQ.out, HL.out HQ.out, Hl.out]; rfl
    · rw [HL.out HQ.out]; unfold OwnI; rw [Hl.out]; exact ho3

theorem implSumTake_any (ao : Option Addr) (xs : List Int) (c : Nat) (w : World) (hx : Ints w ao xs) (hc : xs.length ≤ c) (hc2 : xs.length ≤ 4611686018427387904) :
    Calls Try.prog 35 #[.slice ao xs.length c] w fun e w' => ∃ ao' c', e = .returned (.tuple #[.slice ao' (sumTakeL xs).length c', .bool (sumTakeB xs)]) ∧ OwnI w' w.heap.size ao' c' (sumTakeL xs) ∧ Below w.heap.size w w' := by
  by_cases h2 : (xs.length : Int) < 2
  · have HB := Lib.hid (sumTakeB_len (xs := xs) (by omega))
    go_enter Try.func35, Try.ntmps35
    go_wp2
    go_ret2
    rw [HB.out, sumTakeL_no HB.out]
    exact ⟨none, 0, rfl, World.ownsRow_nil _ _ _ _, Below.refl _ _⟩
  by_cases h3 : (20 : Int) < (xs.length : Int)
  · have HB := Lib.hid (sumTakeB_len (xs := xs) (by omega))
    have h2 : (2 : Int) ≤ (xs.length : Int) := by omega
    go_enter Try.func35, Try.ntmps35
    go_wp2
    go_ret2
    rw [HB.out, sumTakeL_no HB.out]
    exact ⟨none, 0, rfl, World.ownsRow_nil _ _ _ _, Below.refl _ _⟩
  cases hb : bytesB xs
  · have HB := Lib.hid (sumTakeB_bytes hb)
    have h2 : (2 : Int) ≤ (xs.length : Int) := by omega
    have h3 : (xs.length : Int) ≤ 20 := by omega
    go_enter Try.func35, Try.ntmps35
    go_wp2_with fail
    refine (allBytes_any ao xs c w hx (by omega)).mono ?_
    rintro e w1 ⟨rfl, b1⟩
    go_wp2
    go_ret2
    rw [HB.out, sumTakeL_no HB.out]
    exact ⟨none, 0, rfl, World.ownsRow_nil _ _ _ _, b1⟩
  · obtain ⟨n, hn⟩ : ∃ n, xs.length = n + 2 := ⟨xs.length - 2, by omega⟩
    rw [hn]
    exact implSumTake_n ao xs n c w hx hn (by omega) (by omega) hc2 hb

set_option maxHeartbeats 1000000 in
theorem specSumTake_n (ao : Option Addr) (xs : List Int) (n c : Nat) (w : World) (hx : Ints w ao xs) (hn : xs.length = n + 2) (h20 : n ≤ 18) (hc : n + 2 ≤ c) (_hc2 : xs.length ≤ 4611686018427387904) (hb : bytesB xs = true) :
    Calls Try.prog 49 #[.slice ao (n + 2) c] w fun e w' => ∃ ao' c', e = .returned (.tuple #[.slice ao' (sumTakeL xs).length c', .bool (sumTakeB xs)]) ∧ OwnI w' w.heap.size ao' c' (sumTakeL xs) ∧ Below w.heap.size w w' := by
  have hax := l4Bytes_any ao xs c w hx (by omega)
  rw [hn] at hax
  have hux : xs[n]? = some xs[n] := List.getElem?_eq_getElem (by omega)
  have hvx : xs[n + 1]? = some (xs[n + 1]'(by omega)) := List.getElem?_eq_getElem (by omega)
  generalize xs[n] = u at hux
  generalize (xs[n + 1]'(by omega)) = v at hvx
  have hB := sumTakeB_n hb hn h20 hux hvx
  have hL := @sumTakeL_n xs n hn
  have hl : (xs.take n).length = n := by rw [List.length_take]; omega
  have hb' := bytesB_take hb n
  have HN := Lib.hid hn
  have HB := Lib.hid hB
  have HL := Lib.hid hL
  have HX := Lib.hid hux
  have HV := Lib.hid hvx
  clear hB hL hn hux hvx
  have h2 : (n : Int) ≤ 18 := by omega
  obtain ⟨b, off, rfl, _⟩ : ∃ b off, ao = some ⟨b, off, none⟩ ∧ True := by
    obtain ⟨b, off, x, h, _⟩ := hx.at_ (k := 0) (by have := HN.out; omega)
    exact ⟨b, off, h, trivial⟩
  have hcu : w.cell? ⟨b, off + n, none⟩ = some (.int .i64 u) := by
    obtain ⟨b', off', x, h, hxx, hc⟩ := hx.at_ (k := n) (by have := HN.out; omega)
    rw [HX.out] at hxx
    cases hxx; cases h; exact hc
  have hcv : w.cell? ⟨b, off + (n + 1), none⟩ = some (.int .i64 v) := by
    obtain ⟨b', off', x, h, hxx, hc⟩ := hx.at_ (k := n + 1) (by have := HN.out; omega)
    rw [HV.out] at hxx
    cases hxx; cases h; exact hc
  go_enter Try.func49, Try.ntmps49
  go_wp2_with fail
  refine hax.mono ?_
  rintro e w1 ⟨rfl, b1⟩
  have hxt := (hx.below b1).take n
  have hsum := l32Sum_any (some ⟨b, off, none⟩) (xs.take n) c w1 hxt (by omega) hb'
  rw [hl] at hsum
  have hcu' := Keeps.of_below b1 _ _ _ hcu
  have hcv' := Keeps.of_below b1 _ _ _ hcv
  have Hl := Lib.hid hl
  clear hl hcu hcv hax
  go_wp2_with fail
  refine hsum.mono ?_
  rintro e w2 ⟨rfl, rfl⟩
  clear hsum
  by_cases h1 : u = (sumL (xs.take n)).1
  case neg =>
    have hd : (u != (sumL (xs.take n)).1) = true := by simpa using h1
    have HQ : Hid (sumTakeB xs = false) := Lib.hid (by rw [HB.out]; simp; intro h; exact absurd h.symm h1)
    clear h1
    go_wp2
    go_ret2
    rw [HQ.out, sumTakeL_no HQ.out]
    exact ⟨_, _, rfl, World.ownsRow_made w1 #[] 0 b1.size (by simp) (by simp), b1.alloc b1.size _⟩
  by_cases h3 : v = (sumL (xs.take n)).2
  case neg =>
    have hd : (u != (sumL (xs.take n)).1) = false := by simpa using h1
    have hd2 : (v != (sumL (xs.take n)).2) = true := by simpa using h3
    have HQ : Hid (sumTakeB xs = false) := Lib.hid (by rw [HB.out]; simp; intro _ h; exact absurd h.symm h3)
    clear h1 h3
    go_wp2
    go_ret2
    rw [HQ.out, sumTakeL_no HQ.out]
    exact ⟨_, _, rfl, World.ownsRow_made w1 #[] 0 b1.size (by simp) (by simp), b1.alloc b1.size _⟩
  have hd : (u != (sumL (xs.take n)).1) = false := by simpa using h1
  have hd2 : (v != (sumL (xs.take n)).2) = false := by simpa using h3
  have HQ : Hid (sumTakeB xs = true) := Lib.hid (by rw [HB.out]; simp; exact ⟨h1.symm, h3.symm⟩)
  clear h1 h3
  go_wp2_with (
    at_builtin
    refine name_list fun W hW => ?_
    have hoW : W.ownsRow w.heap.size 3 1 (.slice (some ⟨w1.heap.size, 0, none⟩) 0 0) 0 [] := (by rw [hW]; exact World.ownsRow_made w1 #[] 0 b1.size (by simp) (by simp))
    have hxW : Ints W (some ⟨b, off, none⟩) (xs.take n) := (by rw [hW]; exact hxt.keep (Keeps.alloc _ _))
    have bW : Below w.heap.size w W := (by rw [hW]; exact b1.alloc b1.size _)
    refine wpList_append_row W rfl _ _ _ rfl w.heap.size 3 _ 1 8 Try.underlying23 int_info rfl (by decide) (some ⟨w1.heap.size, 0, none⟩) 0 0 [] (by rfl) hoW (some ⟨b, off, none⟩) n c ((xs.take n).map (Value.int .i64)) (by rfl) hxW (by rw [List.length_map, Hl.out, Nat.mul_one]) (ints_one _) (by simp) (by simp only [maxLen]; omega) (by omega) bW.size ?_
    intro a1 d1 w3 ho3 hg3
    rw [Nat.zero_add, List.nil_append] at ho3
    have b3 := below_append bW hoW hg3 bW.size
    rw [Nat.zero_add]
    clear hW hoW hxW)
  go_ret2
  refine ⟨a1, d1, ?_, ?_, b3⟩
  · rw [HQ.out, HL.out HQ.out, Hl.out]; rfl
  · rw [HL.out HQ.out]; unfold OwnI; rw [Hl.out]; exact ho3

theorem specSumTake_any (ao : Option Addr) (xs : List Int) (c : Nat) (w : World) (hx : Ints w ao xs) (hc : xs.length ≤ c) (hc2 : xs.length ≤ 4611686018427387904) :
    Calls Try.prog 49 #[.slice ao xs.length c] w fun e w' => ∃ ao' c', e = .returned (.tuple #[.slice ao' (sumTakeL xs).length c', .bool (sumTakeB xs)]) ∧ OwnI w' w.heap.size ao' c' (sumTakeL xs) ∧ Below w.heap.size w w' := by
  cases hb : bytesB xs
  · have HB := Lib.hid (sumTakeB_bytes hb)
    go_enter Try.func49, Try.ntmps49
    go_wp2_with fail
    refine (l4Bytes_any ao xs c w hx (by omega)).mono ?_
    rintro e w1 ⟨rfl, b1⟩
    go_wp2
    go_ret2
    rw [HB.out, sumTakeL_no HB.out]
    exact ⟨_, _, rfl, World.ownsRow_made w1 #[] 0 b1.size (by simp) (by simp), b1.alloc b1.size _⟩
  by_cases h2 : (xs.length : Int) < 2
  · have HB := Lib.hid (sumTakeB_len (xs := xs) (by omega))
    have h2' : (xs.length : Int) - 2 < 0 := by omega
    go_enter Try.func49, Try.ntmps49
    go_wp2_with fail
    refine (l4Bytes_any ao xs c w hx (by omega)).mono ?_
    rintro e w1 ⟨rfl, b1⟩
    go_wp2
    go_ret2
    rw [HB.out, sumTakeL_no HB.out]
    exact ⟨_, _, rfl, World.ownsRow_made w1 #[] 0 b1.size (by simp) (by simp), b1.alloc b1.size _⟩
  by_cases h3 : (20 : Int) < (xs.length : Int)
  · have HB := Lib.hid (sumTakeB_len (xs := xs) (by omega))
    have h2 : (2 : Int) ≤ (xs.length : Int) := by omega
    have h2' : 0 ≤ (xs.length : Int) - 2 := by omega
    go_enter Try.func49, Try.ntmps49
    go_wp2_with fail
    refine (l4Bytes_any ao xs c w hx (by omega)).mono ?_
    rintro e w1 ⟨rfl, b1⟩
    go_wp2
    go_ret2
    rw [HB.out, sumTakeL_no HB.out]
    exact ⟨_, _, rfl, World.ownsRow_made w1 #[] 0 b1.size (by simp) (by simp), b1.alloc b1.size _⟩
  · obtain ⟨n, hn⟩ : ∃ n, xs.length = n + 2 := ⟨xs.length - 2, by omega⟩
    rw [hn]
    exact specSumTake_n ao xs n c w hx hn (by omega) (by omega) hc2 hb
end Go.Proofs.Ytjamcfnclnpdkaa
