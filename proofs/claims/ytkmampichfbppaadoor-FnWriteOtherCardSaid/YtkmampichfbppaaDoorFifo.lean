/- Queues: the ring in which the program holds one. -/
import Derived.Test.YtkmampichfbppaaDoorBox
import Derived.Test.YtkmampichfbppaaDoorGotList2
namespace Go.Proofs.YtkmampichfbppaaDoor
open Go.RowKit

/-- A ring whose first byte lies in cell 0. -/
def Ring (w : World) (g room : Nat) (vs : List Int) : Prop := ∃ arr : Array Value, w.heap[g]? = some (.cells arr 100 (0, 0)) ∧ arr.size = 19 ∧
  arr[16]? = some (Value.int .i64 room) ∧ arr[17]? = some (Value.int .i64 0) ∧ arr[18]? = some (Value.int .i64 vs.length) ∧ ∀ (j : Nat) (x : Int), vs[j]? = some x → arr[j]? = some (Value.int .i64 x)
theorem Ring.lt {w : World} {g room : Nat} {vs : List Int} (h : Ring w g room vs) : g < w.heap.size := by
  obtain ⟨arr, h, _⟩ := h
  exact (Array.getElem?_eq_some_iff.1 h).1
theorem Ring.block {w w' : World} {g room : Nat} {vs : List Int} (h : Ring w g room vs) (hb : w'.heap[g]? = w.heap[g]?) : Ring w' g room vs := by
  obtain ⟨arr, h, r⟩ := h
  exact ⟨arr, hb.trans h, r⟩
theorem Ring.below {w w' : World} {g room : Nat} {vs : List Int} (h : Ring w g room vs) (hb : Below w.heap.size w w') : Ring w' g room vs := h.block (hb.block g h.lt)
theorem Ring.cell {w : World} {g room : Nat} {vs : List Int} (h : Ring w g room vs) : w.cell? ⟨g, 16, none⟩ = some (.int .i64 room) ∧ w.cell? ⟨g, 17, none⟩ = some (.int .i64 0) ∧ w.cell? ⟨g, 18, none⟩ = some (.int .i64 vs.length) ∧ ∀ j, w.frozen? ⟨g, j, none⟩ = false := by
  obtain ⟨arr, h, _, h1, h2, h3, _⟩ := h
  refine ⟨?_, ?_, ?_, fun j => ?_⟩
  · rw [cell_of_row w g 16 _ _ _ h]; exact h1
  · rw [cell_of_row w g 17 _ _ _ h]; exact h2
  · rw [cell_of_row w g 18 _ _ _ h]; exact h3
  · simp [World.frozen?, h]
theorem Ring.ex {w : World} {g room : Nat} {vs : List Int} (h : Ring w g room vs) {j : Nat} (hj : j < 19) : ∃ u, w.cell? ⟨g, j, none⟩ = some u := by
  obtain ⟨arr, h, hs, _⟩ := h
  refine ⟨arr[j], ?_⟩
  rw [cell_of_row w g j _ _ _ h]
  exact Array.getElem?_eq_getElem _
theorem Ring.at_ {w : World} {g room : Nat} {vs : List Int} (h : Ring w g room vs) {j : Nat} {x : Int} (hx : vs[j]? = some x) : w.cell? ⟨g, j, none⟩ = some (.int .i64 x) := by
  obtain ⟨arr, h, _, _, _, _, h4⟩ := h
  rw [cell_of_row w g j _ _ _ h]
  exact h4 j x hx
theorem Ring.put {w : World} {g room : Nat} {vs : List Int} (h : Ring w g room vs) (hl : vs.length < 16) (b : Int) :
    Ring ((w.setCell ⟨g, vs.length, none⟩ (.int .i64 b)).setCell ⟨g, 18, none⟩ (.int .i64 ((vs.length : Int) + 1))) g room (vs ++ [b]) := by
  obtain ⟨arr, h, hs, h1, h2, h3, h4⟩ := h
  refine ⟨(arr.setIfInBounds vs.length (.int .i64 b)).setIfInBounds 18 (.int .i64 ((vs.length : Int) + 1)), ?_, by simp [hs], ?_, ?_, ?_, ?_⟩
  · simp [World.setCell, Array.getElem?_modify, h]
  · rw [Array.getElem?_setIfInBounds_ne (by omega), Array.getElem?_setIfInBounds_ne (by omega)]; exact h1
  · rw [Array.getElem?_setIfInBounds_ne (by omega), Array.getElem?_setIfInBounds_ne (by omega)]; exact h2
  · rw [Array.getElem?_setIfInBounds_self_of_lt (by simp [hs])]; simp
  · intro j x hx
    have hj : j < (vs ++ [b]).length := (List.getElem?_eq_some_iff.1 hx).1
    simp at hj
    rw [Array.getElem?_setIfInBounds_ne (by omega)]
    by_cases e : j = vs.length
    · subst e
      rw [List.getElem?_append_right (Nat.le_refl _), Nat.sub_self] at hx
      simp at hx
      subst hx
      rw [Array.getElem?_setIfInBounds_self_of_lt (by omega)]
    · rw [List.getElem?_append_left (by omega)] at hx
      rw [Array.getElem?_setIfInBounds_ne (by omega)]
      exact h4 j x hx

set_option maxHeartbeats 400000 in
theorem put_no (g room : Nat) (vs : List Int) (b : Int) (w : World) (h : Ring w g room vs) (hl : room ≤ vs.length) :
    Calls Tryd.prog 47 #[.pointer (some ⟨g, 0, none⟩), .int .i64 b] w fun e w' => e = .returned (.bool false) ∧ Below w.heap.size w w' := by
  obtain ⟨c16, c17, c18, fz⟩ := h.cell
  have h1 : (room : Int) ≤ (vs.length : Int) := by omega
  clear fz
  go_enter Tryd.func47, Tryd.ntmps47
  go_wp2_with fail
  go_quiet (fail)
  go_wp2
  go_ret
  exact ⟨rfl, below_drewN (Below.refl _ _) _⟩
set_option maxHeartbeats 400000 in
theorem put_yes (g room : Nat) (vs : List Int) (b : Int) (w : World) (h : Ring w g room vs) (hr : room ≤ 16) (hl : vs.length < room) :
    Calls Tryd.prog 47 #[.pointer (some ⟨g, 0, none⟩), .int .i64 b] w fun e w' => e = .returned (.bool true) ∧ Ring w' g room (vs ++ [b]) ∧ w.grownBy w' (some g) := by
  obtain ⟨c16, c17, c18, fz⟩ := h.cell
  obtain ⟨u, cu⟩ := h.ex (j := vs.length) (by omega)
  have fu := fz vs.length
  have f18 := fz 18
  have h1 : (vs.length : Int) < (room : Int) := by omega
  have h0 : ((room : Int) == 0) = false := beq_eq_false_iff_ne.2 (by omega)
  have h0' : ¬ (room : Int) = 0 := by omega
  have h0'' : room ≠ 0 := by omega
  have hwr : IntKind.i64.wrap (0 + (vs.length : Int)) = (vs.length : Int) := by rw [Int.zero_add]; exact IntWalk.i64_in _ (by omega)
  have hwr' : IntKind.i64.wrap (vs.length : Int) = (vs.length : Int) := IntWalk.i64_in _ (by omega)
  have HP := Lib.hid (h.put (by omega) b)
  clear fz h
  generalize vs.length = n at *
  have hn16 : n < 16 := by omega
  have hm : Int.tmod (n : Int) (room : Int) = (n : Int) := Int.tmod_eq_of_lt (by omega) h1
  have hm2 : (n : Int) % (room : Int) = (n : Int) := Int.emod_eq_of_lt (by omega) h1
  have h16 : (n : Int) < 16 := by omega
  have h00 : (0 : Int) ≤ (n : Int) := by omega
  have n16 : n ≠ 16 := by omega
  have n17 : n ≠ 17 := by omega
  have n18 : n ≠ 18 := by omega
  go_enter Tryd.func47, Tryd.ntmps47
  go_wp2_with fail
  go_quiet (fail)
  go_wp2_with fail
  go_region_held3 (fun v => v.cell? ⟨g, 16, none⟩ = some (.int .i64 room) ∧ v.cell? ⟨g, 17, none⟩ = some (.int .i64 0) ∧ v.cell? ⟨g, 18, none⟩ = some (.int .i64 n))
    (first
      | (go_keep; done)
      | (refine ⟨?_, ?_, ?_⟩ <;> (rw [World.cell?_setCell_other _ _ _ _ (by simp [*])]; try simp [*])))
    (fail)
  go_wp2
  go_ret
  refine ⟨rfl, HP.out.block rfl, ?_⟩
  refine grownBy_trans (b := (w.setCell ⟨g, n, none⟩ (.int .i64 b)).setCell ⟨g, 18, none⟩ (.int .i64 ((n : Int) + 1))) (grownBy_trans (grown_set _ _ _) (grown_set _ _ _)) ⟨rfl, rfl, rfl, Nat.le_refl _, fun _ _ _ => rfl⟩

def fifoB (room : Int) (xs : List Int) : Bool := decide (1 ≤ room ∧ room ≤ 16) && (decide ((xs.length : Int) ≤ room) && bytesB xs)
theorem fifoB_facts {room : Int} {xs : List Int} (h : fifoB room xs = true) : (1 ≤ room ∧ room ≤ 16) ∧ (xs.length : Int) ≤ room ∧ bytesB xs = true := by
  unfold fifoB at h
  simpa only [Bool.and_eq_true, decide_eq_true_eq] using h

theorem implFifoValid_any (room : Int) (ao : Option Addr) (xs : List Int) (c : Nat) (w : World) (hx : Ints w ao xs) (lx : xs.length ≤ 4611686018427387904) :
    Calls Tryd.prog 44 #[.agg #[.int .i64 room, .slice ao xs.length c]] w fun e w' => e = .returned (.bool (fifoB room xs)) ∧ Below w.heap.size w w' := by
  have b0 : Below w.heap.size w (w.alloc (.cells #[.int .i64 room, .slice ao xs.length c] 62)) := (Below.refl _ _).alloc (Nat.le_refl _) _
  have B0 := Lib.hid b0
  have hx0 := hx.below b0
  clear b0
  by_cases h1 : room < 1
  · have HF : Hid (fifoB room xs = false) := Lib.hid (by simp [fifoB]; omega)
    have hd : decide (1 ≤ room) = false := by simpa using h1
    go_enter Tryd.func44, Tryd.ntmps44
    go_wp2
    go_ret
    exact ⟨ret_bool HF.out.symm, B0.out⟩
  by_cases h2 : 16 < room
  · have HF : Hid (fifoB room xs = false) := Lib.hid (by simp [fifoB]; omega)
    have h1' : 1 ≤ room := by omega
    have hd : decide (room ≤ 16) = false := by simpa using h2
    clear h1
    go_enter Tryd.func44, Tryd.ntmps44
    go_wp2
    go_ret
    exact ⟨ret_bool HF.out.symm, B0.out⟩
  have h1' : 1 ≤ room := by omega
  have h2' : room ≤ 16 := by omega
  by_cases h3 : room < (xs.length : Int)
  · have HF : Hid (fifoB room xs = false) := Lib.hid (by simp [fifoB]; omega)
    have hd : decide ((xs.length : Int) ≤ room) = false := by simpa using h3
    clear h1 h2
    go_enter Tryd.func44, Tryd.ntmps44
    go_wp2
    go_ret
    exact ⟨ret_bool HF.out.symm, B0.out⟩
  have h3' : (xs.length : Int) ≤ room := by omega
  have HF : Hid (fifoB room xs = bytesB xs) := Lib.hid (by simp [fifoB, h1', h2', h3'])
  clear h1 h2 h3
  go_enter Tryd.func44, Tryd.ntmps44
  go_wp2_with fail
  refine (allBytes_any ao xs c _ hx0 lx).mono ?_
  rintro e w1 ⟨rfl, b1⟩
  go_wp2
  go_ret
  exact ⟨ret_bool HF.out.symm, below_join B0.out b1⟩


set_option maxHeartbeats 400000 in
theorem ringOf_any (room : Nat) (ao : Option Addr) (xs : List Int) (c : Nat) (w : World) (hx : Ints w ao xs) (hr : room ≤ 16) (lx : xs.length ≤ room) :
    Calls Tryd.prog 46 #[.agg #[.int .i64 room, .slice ao xs.length c]] w fun e w' => ∃ g, e = .returned (.pointer (some ⟨g, 0, none⟩)) ∧ w.heap.size ≤ g ∧ Ring w' g room xs ∧ Below w.heap.size w w' := by
  have b0 : Below w.heap.size w (w.alloc (.cells #[.int .i64 room, .slice ao xs.length c] 62)) := (Below.refl _ _).alloc (Nat.le_refl _) _
  clear b0
  go_enter Tryd.func46, Tryd.ntmps46
  go_wp2_with fail
  refine name_wp fun W hW => ?_
  have bW : Below w.heap.size w W := by
    rw [hW]
    repeat' (first | exact Below.refl _ _ | exact Nat.le_refl _ | assumption | refine Below.drew ?_ | refine below_drewN ?_ _ | (refine Below.alloc ?_ (by first | exact Nat.le_refl _ | omega | (simp; done) | (simp; omega)) _) | (refine Below.setCell ?_ (by first | exact Nat.le_refl _ | omega | (simp; done) | (simp; omega)) _))
  have rW : Ring W (w.heap.size + 1) room [] := by
    rw [hW]
    exact ⟨_, heap_new_at _ _ _ (by simp), rfl, rfl, rfl, rfl, fun j x hj => by simp at hj⟩
  clear hW
  go_loopw [13] (fun i wr => ∃ k : Nat, k ≤ xs.length ∧ i = .int .i64 k ∧ Below w.heap.size w wr ∧ Ring wr (w.heap.size + 1) room (xs.take k)) (fun i _ => xs.length - (intOf i).toNat)
  case atStart => exact ⟨0, Nat.zero_le _, rfl, bW, rW⟩
  case round =>
    obtain ⟨k, hk, rfl, hB, hR⟩ := hrel
    clear rW bW
    by_cases hlt : k < xs.length
    · obtain ⟨b, off, x, rfl, ex, x0⟩ := (hx.below hB).at_ hlt
      have EX := Lib.hid ex
      clear hx
      have hl : (xs.take k).length < room := by rw [List.length_take]; omega
      clear ex
      go_wp2_with fail
      refine (put_yes (w.heap.size + 1) room (xs.take k) x wr hR hr hl).mono ?_
      rintro e w1 ⟨rfl, R1, g1⟩
      go_wp2
      go_roundw
      case rel => exact ⟨k + 1, by omega, by go_num, below_only hB g1 (by omega), by rw [take_succ_of EX.out]; exact R1⟩
      case measure => simp [intOf]; omega
    · have he : k = xs.length := by omega
      subst he
      rw [List.take_length] at hR
      go_wp2
      go_ret
      exact ⟨_, rfl, by omega, hR, hB⟩

set_option maxHeartbeats 1000000 in
theorem ringFifo_any (g room : Nat) (xs : List Int) (w : World) (h : Ring w g room xs) (hr : room ≤ 16) (hr1 : 1 ≤ room) (lx : xs.length ≤ room) :
    Calls Tryd.prog 48 #[.pointer (some ⟨g, 0, none⟩)] w fun e w' => ∃ ao c, e = .returned (.agg #[.int .i64 room, .slice ao xs.length c]) ∧ OwnI w' w.heap.size ao c xs ∧ Below w.heap.size w w' := by
  have hg := h.lt
  have b0 : Below w.heap.size w (w.alloc (.cells #[.int .i64 0, .slice none 0 0] 62)) := (Below.refl _ _).alloc (Nat.le_refl _) _
  obtain ⟨c16, c17, c18, fz⟩ := (h.below b0).cell
  have hmk := run_make_room (P := Tryd.prog) 28 3 Tryd.underlying28 int_info xs.length (by omega) (by omega)
  clear fz b0
  go_enter Tryd.func48, Tryd.ntmps48
  go_wp2_with fail
  refine name_wp fun W hW => ?_
  have H2 : W.heap[w.heap.size]? = some (.cells #[.int .i64 0, .slice none 0 0] 62 (0, 0)) := by rw [hW]; exact box_alloc (heap_new_at _ _ _ rfl) _
  have bW : Below w.heap.size w W := by
    rw [hW]
    repeat' (first | exact Below.refl _ _ | exact Nat.le_refl _ | assumption | refine Below.drew ?_ | refine below_drewN ?_ _ | (refine Below.alloc ?_ (by first | exact Nat.le_refl _ | omega | (simp; done) | (simp; omega)) _) | (refine Below.setCell ?_ (by first | exact Nat.le_refl _ | omega | (simp; done) | (simp; omega)) _))
  have zW : W.heap.size = w.heap.size + 2 := by rw [hW]; simp
  have oW : OwnI W (w.heap.size + 1) (some ⟨w.heap.size + 1, 0, none⟩) xs.length [] := by
    rw [hW]; exact own_made_at _ _ _ _ _ _ _ (by simp) (by simp) (by simp only [maxLen]; omega) (by simp [newRow, madeCells])
  clear hW c16 c17 c18 hmk
  go_loopw [3, 14] (fun v i wr => ∃ (k : Nat) (ao : Option Addr) (c : Nat), k ≤ xs.length ∧ i = .int .i64 k ∧ v = .slice ao k c ∧ wr.ownsRow (w.heap.size + 1) 3 1 (.slice ao k c) k ((xs.take k).map (Value.int .i64)) ∧ Below (w.heap.size + 1) W wr) (fun _ i _ => xs.length - (intOf i).toNat)
  case atStart => exact ⟨0, _, _, Nat.zero_le _, rfl, rfl, oW, Below.refl _ _⟩
  case round =>
    obtain ⟨k, ao, c, hk, rfl, rfl, ho, hB⟩ := hrel
    have hR : Ring wr g room xs := (h.below bW).block (hB.block g (by omega))
    obtain ⟨c16, c17, c18, fz⟩ := hR.cell
    have z1 := hB.size
    clear oW fz
    by_cases hlt : k < xs.length
    · have hx : xs[k]? = some xs[k] := List.getElem?_eq_getElem hlt
      generalize xs[k] = x at hx
      have ck := hR.at_ hx
      have HX := Lib.hid hx
      have HR := Lib.hid hR
      have h1 : (k : Int) < (room : Int) := by omega
      have h0 : ((room : Int) == 0) = false := beq_eq_false_iff_ne.2 (by omega)
      have h0' : ¬ (room : Int) = 0 := by omega
      have h0'' : room ≠ 0 := by omega
      have hwr : IntKind.i64.wrap (0 + (k : Int)) = (k : Int) := by rw [Int.zero_add]; exact IntWalk.i64_in _ (by omega)
      have hwr' : IntKind.i64.wrap (k : Int) = (k : Int) := IntWalk.i64_in _ (by omega)
      have hm : Int.tmod (k : Int) (room : Int) = (k : Int) := Int.tmod_eq_of_lt (by omega) h1
      have hm2 : (k : Int) % (room : Int) = (k : Int) := Int.emod_eq_of_lt (by omega) h1
      have h16 : (k : Int) < 16 := by omega
      have h00 : (0 : Int) ≤ (k : Int) := by omega
      clear hx hR h c18
      go_wp2_with fail
      go_region_held3 (fun v => v.cell? ⟨g, 16, none⟩ = some (.int .i64 room) ∧ v.cell? ⟨g, 17, none⟩ = some (.int .i64 0) ∧ v.cell? ⟨g, k, none⟩ = some (.int .i64 x))
        (go_keep)
        ((refine step_append_row (by rfl) _ _ _ (by rfl) (w.heap.size + 1) 3 _ 1 8 Tryd.underlying28 int_info rfl (by decide) ao k c ((xs.take k).map (Value.int .i64)) (by rfl) ?ho (some ⟨wr.heap.size, 0, none⟩) 1 1 [.int .i64 x] (by rfl) ?hn (by rfl) ?h1 (by simp) (by simp only [maxLen]; omega) (by omega) ?hb ?_
          case ho => exact (World.ownsRow.alloc ho _)
          case hn => exact (Cells.drew (cells_new wr #[.int .i64 x] _ rfl))
          case h1 => (simp [Value.oneCell'])
          case hb => (show w.heap.size + 1 ≤ (wr.alloc _).heap.size; simp; omega)
          intro a2 c2 w2 ho2 hg2
          have hne : ∀ q, (Value.slice ao k c).ownBlock = some q → w.heap.size + 1 ≤ q := fun q hq => (ho.lt q hq).1
          have b2 : Below (w.heap.size + 1) wr w2 := ((Below.refl _ wr).alloc (by omega) _).drew.grown hg2 (by show w.heap.size + 1 ≤ (wr.alloc _).heap.size; simp; omega) hne
          obtain ⟨d16, d17, _, _⟩ := (HR.out.block (b2.block g (by omega))).cell
          have dk := (HR.out.block (b2.block g (by omega))).at_ HX.out))
      go_wp2
      go_roundw
      case rel => exact ⟨k + 1, a2, c2, by omega, by go_num, rfl, by rw [take_succ_of HX.out, List.map_append]; exact ho2, hB.trans b2⟩
      case measure => simp [intOf]; omega
    · have he : k = xs.length := by omega
      subst he
      have H2r := (hB.block w.heap.size (by omega)).trans H2
      obtain ⟨d0, d1, f0, f1⟩ := two_cells H2r
      rw [List.take_length] at ho
      clear H2r H2
      go_wp2
      refine bodyPost_ret (v := .agg #[.int .i64 room, .slice ao xs.length c]) (by simp [results, Tryd.results48, go_sem, *]) rfl ?_
      have hBw := bW.trans (hB.mono (Nat.le_succ _))
      refine ⟨ao, c, rfl, ?_, ?_⟩
      · exact own_base (own_set (own_set ho _ _ (by simp)) _ _ (by simp)) (by omega)
      · repeat' (first | exact Below.refl _ _ | exact Nat.le_refl _ | assumption | refine Below.drew ?_ | refine below_drewN ?_ _ | (refine Below.alloc ?_ (by first | exact Nat.le_refl _ | omega | (simp; done) | (simp; omega)) _) | (refine Below.setCell ?_ (by first | exact Nat.le_refl _ | omega | (simp; done) | (simp; omega)) _))
end Go.Proofs.YtkmampichfbppaaDoor
