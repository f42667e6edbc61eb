/- The shortest inner row; whole bits. -/
import Derived.Test.YthkeodpejhmkbaaRuns2
namespace Go.Proofs.Ythkeodpejhmkbaa
open Go.RowKit

def inner (L : List Int) : List Int := L.tail.dropLast
def leastF (a c : Int) : Int := if a < 0 ∨ c < a then c else a
noncomputable def speedL (xs : List Int) : Int := (inner (runsL xs)).foldl leastF (-1)
def wholeP (s c : Int) : Bool := decide (c % s = 0)
noncomputable def fitsB (xs : List Int) (s : Int) : Bool := sampB xs && (decide (1 ≤ s ∧ s ≤ 500) && (inner (runsL xs)).all (wholeP s))
theorem inner_len (L : List Int) : (inner L).length = L.length - 2 := by simp [inner]; omega
theorem inner_get {L : List Int} {k : Nat} (h : k < (inner L).length) : (inner L)[k]? = L[k + 1]? := by
  have := inner_len L
  unfold inner at h ⊢
  rw [List.getElem?_dropLast, if_pos (by simp at h ⊢; omega), List.getElem?_tail]
theorem inner_mem {L : List Int} {c : Int} (h : c ∈ inner L) : c ∈ L := List.mem_of_mem_tail (List.dropLast_subset _ h)
theorem least_step {L : List Int} {k : Nat} {c : Int} (h : L[k]? = some c) : (L.take (k + 1)).foldl leastF (-1) = leastF ((L.take k).foldl leastF (-1)) c := by
  rw [take_succ_of h, List.foldl_append]; rfl
theorem least_bd : ∀ (L : List Int) (a : Int), -1 ≤ a → a ≤ 500 → (∀ c ∈ L, 1 ≤ c ∧ c ≤ 500) → -1 ≤ L.foldl leastF a ∧ L.foldl leastF a ≤ 500
  | [], a, h0, h1, _ => ⟨h0, h1⟩
  | c :: L, a, h0, h1, h => by
    have hc := h c (by simp)
    refine least_bd L (leastF a c) ?_ ?_ fun d hd => h d (by simp [hd])
    · unfold leastF; split <;> omega
    · unfold leastF; split <;> omega

theorem specRunsOf_any (ao : Option Addr) (xs : List Int) (c : Nat) (w : World) (hx : Ints w ao xs) (lx : xs.length ≤ 4611686018427387904) :
    Calls Try.prog 12 #[.slice ao xs.length c] w fun e w' => ∃ ao' c', e = .returned (.slice ao' (runsL xs).length c') ∧ OwnI w' w.heap.size ao' c' (runsL xs) ∧ Below w.heap.size w w' := by
  cases hv : sampB xs
  · have e0 : runsL xs = [] := by simp [runsL, hv]
    have E0 := Lib.hid e0
    clear e0
    go_enter Try.func12, Try.ntmps12
    go_wp2_with fail
    refine (l3Samples_any ao xs c w hx lx).mono ?_
    rintro e w1 ⟨rfl, hb1⟩
    go_wp2
    go_ret
    rw [E0.out]
    exact ⟨_, 0, rfl, own_base (World.ownsRow_made w1 #[] 0 (Nat.le_refl _) (by simp) (by simp)) hb1.size, hb1.alloc hb1.size _⟩
  · have e0 : runsL xs = runs xs := by simp [runsL, hv]
    have hl5 := sampB_len hv
    go_enter Try.func12, Try.ntmps12
    go_wp2_with fail
    refine (l3Samples_any ao xs c w hx lx).mono ?_
    rintro e w1 ⟨rfl, hb1⟩
    go_wp2_with fail
    refine (l41Runs_any ao xs c w1 (hx.below hb1) (by omega)).mono ?_
    rintro e w2 ⟨a2, c2, rfl, o2, hb2⟩
    rw [← e0] at o2
    have E0 := Lib.hid e0
    clear e0
    go_wp2
    go_ret
    rw [E0.out] at o2 ⊢
    exact ⟨a2, c2, rfl, o2.base hb1.size, below_join hb1 hb2⟩

theorem innerRuns_any (ao : Option Addr) (xs : List Int) (c : Nat) (w : World) (hx : Ints w ao xs) (lx : xs.length ≤ 4611686018427387904) :
    Calls Try.prog 31 #[.slice ao xs.length c] w fun e w' => ∃ ao' c', e = .returned (.slice ao' (inner (runsL xs)).length c') ∧ Ints w' ao' (inner (runsL xs)) ∧ Below w.heap.size w w' := by
  have hbd := (runsL_bd xs).1
  have hil := inner_len (runsL xs)
  have hig := fun k => inner_get (L := runsL xs) (k := k)
  generalize hR : runsL xs = R at *
  have HR := Lib.hid hR
  clear hR
  by_cases h3 : R.length < 3
  · have e0 : inner R = [] := List.eq_nil_of_length_eq_zero (by omega)
    have E0 := Lib.hid e0
    clear e0 hil hig
    go_enter Try.func31, Try.ntmps31
    go_wp2_with fail
    have hc := implRunsOf_any ao xs c w hx lx
    rw [HR.out] at hc
    refine hc.mono ?_
    rintro e w1 ⟨a1, c1, rfl, o1, hb1⟩
    go_wp2
    go_ret
    rw [E0.out]
    exact ⟨none, 0, rfl, Cells.nil _ _, hb1⟩
  · have HI := Lib.hid hil
    have HG := Lib.hid hig
    clear hil hig
    go_enter Try.func31, Try.ntmps31
    go_wp2_with fail
    have hc := implRunsOf_any ao xs c w hx lx
    rw [HR.out] at hc
    refine hc.mono ?_
    rintro e w1 ⟨a1, c1, rfl, o1, hb1⟩
    have hcap : R.length ≤ c1 := own_cap o1
    have hc1 : ¬ c1 = 1 := by omega
    rcases own_head o1 with ⟨_, h0, _⟩ | ⟨g, rfl, hgb, hgs⟩
    · omega
    clear hc
    go_wp2
    go_ret
    have e1 : R.length - 1 - 1 = (inner R).length := by rw [HI.out]; omega
    refine ⟨some ⟨g, 1, none⟩, c1 - 1, ?_, ?_, hb1⟩
    · rw [← e1]; rfl
    · refine .inr ⟨g, 1, rfl, fun j u hu => ?_⟩
      have hj : j < (inner R).length := by
        have := (List.getElem?_eq_some_iff.1 hu).1
        simpa using this
      rw [List.getElem?_map, HG.out j hj] at hu
      rw [Nat.add_comm 1 j]
      exact own_cell_at o1 (by rw [List.getElem?_map]; exact hu)

set_option maxHeartbeats 400000 in
theorem implSpeedOf_any (ao : Option Addr) (xs : List Int) (c : Nat) (w : World) (hx : Ints w ao xs) (lx : xs.length ≤ 4611686018427387904) :
    Calls Try.prog 21 #[.slice ao xs.length c] w fun e w' => e = .returned (.int .i64 (speedL xs)) ∧ Below w.heap.size w w' := by
  have hbd := runsL_bd xs
  have hil : (inner (runsL xs)).length ≤ 500 := by rw [inner_len]; omega
  have him : ∀ c ∈ inner (runsL xs), 1 ≤ c ∧ c ≤ 500 := fun c hc => hbd.2 c (inner_mem hc)
  have e0 : speedL xs = (inner (runsL xs)).foldl leastF (-1) := rfl
  generalize hR : inner (runsL xs) = R at *
  have HR := Lib.hid hR
  have E0 := Lib.hid e0
  have HM := Lib.hid him
  clear hR e0 him hbd
  go_enter Try.func21, Try.ntmps21
  go_wp2_with fail
  have hc := innerRuns_any ao xs c w hx lx
  rw [HR.out] at hc
  refine hc.mono ?_
  rintro e w1 ⟨a1, c1, rfl, r1, hb1⟩
  clear hc
  go_wp2
  go_loopw [3, 9] (fun v i wr => ∃ (k : Nat) (a : Int), k ≤ R.length ∧ i = .int .i64 k ∧ v = .int .i64 a ∧ Below w1.heap.size w1 wr ∧ a = (R.take k).foldl leastF (-1)) (fun _ i _ => R.length - (intOf i).toNat)
  case atStart => exact ⟨0, -1, Nat.zero_le _, rfl, rfl, Below.refl _ _, rfl⟩
  case round =>
    obtain ⟨k, a, hk, rfl, rfl, hbr, ha⟩ := hrel
    have HA := Lib.hid ha
    clear ha
    by_cases hlt : k < R.length
    · obtain ⟨b, off, x, rfl, ex, x0⟩ := (r1.below hbr).at_ hlt
      have EX := Lib.hid ex
      clear ex hx r1
      by_cases h1 : a < 0
      · go_wp2
        go_roundw
        case rel => exact ⟨k + 1, x, by omega, by go_num, rfl, hbr, by rw [least_step EX.out, ← HA.out]; simp [leastF, h1]⟩
        case measure => simp [intOf]; omega
      by_cases h2 : x < a
      · go_wp2
        go_roundw
        case rel => exact ⟨k + 1, x, by omega, by go_num, rfl, hbr, by rw [least_step EX.out, ← HA.out]; simp [leastF, h2]⟩
        case measure => simp [intOf]; omega
      · go_wp2
        go_roundw
        case rel => exact ⟨k + 1, a, by omega, by go_num, rfl, hbr, by rw [least_step EX.out, ← HA.out]; unfold leastF; rw [if_neg (by omega)]⟩
        case measure => simp [intOf]; omega
    · have he : k = R.length := by omega
      have e1 : a = speedL xs := by rw [E0.out, HA.out, he, List.take_length]
      have E1 := Lib.hid e1
      clear e1
      go_wp2
      go_ret
      exact ⟨ret_int E1.out, below_join hb1 hbr⟩

set_option maxHeartbeats 400000 in
theorem specSpeedOf_any (ao : Option Addr) (xs : List Int) (c : Nat) (w : World) (hx : Ints w ao xs) (lx : xs.length ≤ 4611686018427387904) :
    Calls Try.prog 20 #[.slice ao xs.length c] w fun e w' => e = .returned (.int .i64 (speedL xs)) ∧ Below w.heap.size w w' := by
  have hbd := (runsL_bd xs).1
  have e0 : speedL xs = (inner (runsL xs)).foldl leastF (-1) := rfl
  generalize hR : runsL xs = R at *
  have hil := inner_len R
  have HI := Lib.hid hil
  have HR := Lib.hid hR
  have E0 := Lib.hid e0
  clear hR e0 hil
  go_enter Try.func20, Try.ntmps20
  go_wp2_with fail
  have hc := specRunsOf_any ao xs c w hx lx
  rw [HR.out] at hc
  refine hc.mono ?_
  rintro e w1 ⟨a1, c1, rfl, o1, hb1⟩
  have r1 := o1.ints
  clear hc o1
  go_wp2
  go_loopw [4, 5] (fun v i wr => ∃ (k : Nat) (a : Int), k ≤ (inner R).length ∧ i = .int .i64 ((k : Int) + 1) ∧ v = .int .i64 a ∧ Below w1.heap.size w1 wr ∧ a = ((inner R).take k).foldl leastF (-1)) (fun _ i _ => R.length - (intOf i).toNat)
  case atStart => exact ⟨0, -1, Nat.zero_le _, rfl, rfl, Below.refl _ _, rfl⟩
  case round =>
    obtain ⟨k, a, hk, rfl, rfl, hbr, ha⟩ := hrel
    have HA := Lib.hid ha
    have hil := HI.out
    clear ha
    by_cases hlt : k < (inner R).length
    · obtain ⟨b, off, x, rfl, ex, x0⟩ := (r1.below hbr).at_ (show k + 1 < R.length by omega)
      have EX : Hid ((inner R)[k]? = some x) := Lib.hid (by rw [inner_get hlt]; exact ex)
      have hk2 : k + 1 < R.length := by omega
      have hk3 : k + 1 + 1 < R.length := by omega
      clear ex hx r1 hil
      by_cases h1 : a < 0
      · go_wp2
        go_roundw
        case rel => exact ⟨k + 1, x, by omega, by go_num, rfl, hbr, by rw [least_step EX.out, ← HA.out]; simp [leastF, h1]⟩
        case measure => simp [intOf]; omega
      by_cases h2 : x < a
      · go_wp2
        go_roundw
        case rel => exact ⟨k + 1, x, by omega, by go_num, rfl, hbr, by rw [least_step EX.out, ← HA.out]; simp [leastF, h2]⟩
        case measure => simp [intOf]; omega
      · go_wp2
        go_roundw
        case rel => exact ⟨k + 1, a, by omega, by go_num, rfl, hbr, by rw [least_step EX.out, ← HA.out]; unfold leastF; rw [if_neg (by omega)]⟩
        case measure => simp [intOf]; omega
    · have he : k = (inner R).length := by omega
      have e1 : a = speedL xs := by rw [E0.out, HA.out, he, List.take_length]
      have E1 := Lib.hid e1
      have hk3 : (R.length : Int) ≤ (k : Int) + 1 + 1 := by omega
      have hk5 : k ≤ 500 := by omega
      clear e1 hil he
      go_wp2
      go_ret
      exact ⟨ret_int E1.out, below_join hb1 hbr⟩

theorem fitsB_no_s {xs : List Int} {s : Int} (h : ¬ (1 ≤ s ∧ s ≤ 500)) : fitsB xs s = false := by simp [fitsB, h]
theorem fitsB_no_x {xs : List Int} {s : Int} (h : sampB xs = false) : fitsB xs s = false := by simp [fitsB, h]
theorem fitsB_eq {xs : List Int} {s : Int} (h : sampB xs = true) (hs : 1 ≤ s ∧ s ≤ 500) : fitsB xs s = (inner (runsL xs)).all (wholeP s) := by simp [fitsB, h, hs]

set_option maxHeartbeats 400000 in
theorem implSpeedFits_any (ao : Option Addr) (xs : List Int) (c : Nat) (s : Int) (w : World) (hx : Ints w ao xs) (lx : xs.length ≤ 4611686018427387904) :
    Calls Try.prog 19 #[.slice ao xs.length c, .int .i64 s] w fun e w' => e = .returned (.bool (fitsB xs s)) ∧ Below w.heap.size w w' := by
  cases hv : sampB xs
  · have HF := Lib.hid (fitsB_no_x (s := s) hv)
    go_enter Try.func19, Try.ntmps19
    go_wp2_with fail
    refine (samplesValid_any ao xs c w hx lx).mono ?_
    rintro e w1 ⟨rfl, hb1⟩
    go_wp2
    go_ret
    exact ⟨ret_bool HF.out.symm, hb1⟩
  by_cases h1 : s < 1
  · have HF := Lib.hid (fitsB_no_s (xs := xs) (s := s) (by omega))
    go_enter Try.func19, Try.ntmps19
    go_wp2_with fail
    refine (samplesValid_any ao xs c w hx lx).mono ?_
    rintro e w1 ⟨rfl, hb1⟩
    go_wp2
    go_ret
    exact ⟨ret_bool HF.out.symm, hb1⟩
  by_cases h2 : 500 < s
  · have HF := Lib.hid (fitsB_no_s (xs := xs) (s := s) (by omega))
    go_enter Try.func19, Try.ntmps19
    go_wp2_with fail
    refine (samplesValid_any ao xs c w hx lx).mono ?_
    rintro e w1 ⟨rfl, hb1⟩
    go_wp2
    go_ret
    exact ⟨ret_bool HF.out.symm, hb1⟩
  have hbd := runsL_bd xs
  have hil : (inner (runsL xs)).length ≤ 500 := by rw [inner_len]; omega
  have him : ∀ c ∈ inner (runsL xs), 1 ≤ c ∧ c ≤ 500 := fun c hc => hbd.2 c (inner_mem hc)
  have e0 := fitsB_eq (s := s) hv ⟨by omega, by omega⟩
  have h1 : 1 ≤ s := by omega
  have h2 : s ≤ 500 := by omega
  generalize hR : inner (runsL xs) = R at *
  have HR := Lib.hid hR
  have E0 := Lib.hid e0
  have HM := Lib.hid him
  clear hR e0 him hbd
  go_enter Try.func19, Try.ntmps19
  go_wp2_with fail
  refine (samplesValid_any ao xs c w hx lx).mono ?_
  rintro e w1 ⟨rfl, hb1⟩
  go_wp2_with fail
  have hc := innerRuns_any ao xs c w1 (hx.below hb1) lx
  rw [HR.out] at hc
  refine hc.mono ?_
  rintro e w2 ⟨a1, c1, rfl, r1, hb2⟩
  have hb1 := below_join hb1 hb2
  clear hc
  go_wp2
  go_loopw [21] (fun i wr => ∃ k : Nat, k ≤ R.length ∧ i = .int .i64 k ∧ Below w2.heap.size w2 wr ∧ (R.take k).all (wholeP s) = true) (fun i _ => R.length - (intOf i).toNat)
  case atStart => exact ⟨0, Nat.zero_le _, rfl, Below.refl _ _, rfl⟩
  case round =>
    obtain ⟨k, hk, rfl, hbr, ha⟩ := hrel
    have HA := Lib.hid ha
    clear ha
    by_cases hlt : k < R.length
    · obtain ⟨b, off, x, rfl, ex, x0⟩ := (r1.below hbr).at_ hlt
      have EX := Lib.hid ex
      have hx0 := HM.out x (List.mem_of_getElem? ex)
      clear ex hx r1
      by_cases hw : x % s = 0
      · have hq : (x % s != 0) = false := by simpa using hw
        have HW := Lib.hid hw
        clear hw
        go_wp2
        go_roundw
        case rel => exact ⟨k + 1, by omega, by go_num, hbr, all_step EX.out HA.out (decide_eq_true HW.out)⟩
        case measure => simp [intOf]; omega
      · have hq : (x % s != 0) = true := by simpa using hw
        have HW := Lib.hid hw
        clear hw
        go_wp2
        go_ret
        exact ⟨ret_bool (by rw [E0.out, all_no EX.out (decide_eq_false HW.out)]), below_join hb1 hbr⟩
    · have he : k = R.length := by omega
      have e1 : fitsB xs s = true := by
        have := HA.out
        rw [he, List.take_length] at this
        rw [E0.out, this]
      have E1 := Lib.hid e1
      clear e1
      go_wp2
      go_ret
      exact ⟨ret_bool E1.out.symm, below_join hb1 hbr⟩

set_option maxHeartbeats 400000 in
theorem specSpeedFits_any (ao : Option Addr) (xs : List Int) (c : Nat) (s : Int) (w : World) (hx : Ints w ao xs) (lx : xs.length ≤ 4611686018427387904) :
    Calls Try.prog 18 #[.slice ao xs.length c, .int .i64 s] w fun e w' => e = .returned (.bool (fitsB xs s)) ∧ Below w.heap.size w w' := by
  cases hv : sampB xs
  · have HF := Lib.hid (fitsB_no_x (s := s) hv)
    go_enter Try.func18, Try.ntmps18
    go_wp2_with fail
    refine (l3Samples_any ao xs c w hx lx).mono ?_
    rintro e w1 ⟨rfl, hb1⟩
    go_wp2
    go_ret
    exact ⟨ret_bool HF.out.symm, hb1⟩
  cases hs : inB s 1 500
  · have HF := Lib.hid (fitsB_no_s (xs := xs) (s := s) (by simp [inB] at hs; omega))
    go_enter Try.func18, Try.ntmps18
    go_wp2_with fail
    refine (l3Samples_any ao xs c w hx lx).mono ?_
    rintro e w1 ⟨rfl, hb1⟩
    go_wp2_with fail
    refine (l6In_any s 1 500 w1).mono ?_
    rintro e w2 ⟨rfl, rfl⟩
    go_wp2
    go_ret
    exact ⟨ret_bool HF.out.symm, hb1⟩
  have hs' : 1 ≤ s ∧ s ≤ 500 := by simpa [inB] using hs
  have h1 := hs'.1
  have h2 := hs'.2
  have hbd := runsL_bd xs
  have hil := inner_len (runsL xs)
  have hrr : runsL xs = runs xs := by simp [runsL, hv]
  have e0 := fitsB_eq (s := s) hv hs'
  have hl5 := sampB_len hv
  have him := hbd.2
  have hbd := hbd.1
  rw [hrr] at e0 hil him hbd
  generalize hR : runs xs = R at *
  have HR := Lib.hid hR
  have E0 := Lib.hid e0
  have HM := Lib.hid him
  have HI := Lib.hid hil
  clear hR e0 him hrr hil hs'
  go_enter Try.func18, Try.ntmps18
  go_wp2_with fail
  refine (l3Samples_any ao xs c w hx lx).mono ?_
  rintro e w1 ⟨rfl, hb1⟩
  go_wp2_with fail
  refine (l6In_any s 1 500 w1).mono ?_
  rintro e w2 ⟨rfl, rfl⟩
  go_wp2_with fail
  have hc := l41Runs_any ao xs c w1 (hx.below hb1) (by omega)
  rw [HR.out] at hc
  refine hc.mono ?_
  rintro e w2 ⟨a1, c1, rfl, o1, hb2⟩
  have r1 := o1.ints
  have hb1 := below_join hb1 hb2
  clear hc o1
  go_wp2
  go_loopw [6] (fun i wr => ∃ k : Nat, k ≤ (inner R).length ∧ i = .int .i64 ((k : Int) + 1) ∧ Below w2.heap.size w2 wr ∧ ((inner R).take k).all (wholeP s) = true) (fun i _ => R.length - (intOf i).toNat)
  case atStart => exact ⟨0, Nat.zero_le _, rfl, Below.refl _ _, rfl⟩
  case round =>
    obtain ⟨k, hk, rfl, hbr, ha⟩ := hrel
    have HA := Lib.hid ha
    have hil := HI.out
    clear ha
    by_cases hlt : k < (inner R).length
    · obtain ⟨b, off, x, rfl, ex, x0⟩ := (r1.below hbr).at_ (show k + 1 < R.length by omega)
      have EX : Hid ((inner R)[k]? = some x) := Lib.hid (by rw [inner_get hlt]; exact ex)
      have hx0 := HM.out x (List.mem_of_getElem? ex)
      have hk2 : k + 1 < R.length := by omega
      have hk3 : k + 1 + 1 < R.length := by omega
      clear ex hx r1 hil
      by_cases hw : x % s = 0
      · have hq : (x % s != 0) = false := by simpa using hw
        have HW := Lib.hid hw
        clear hw
        go_wp2
        go_roundw
        case rel => exact ⟨k + 1, by omega, by go_num, hbr, all_step EX.out HA.out (decide_eq_true HW.out)⟩
        case measure => simp [intOf]; omega
      · have hq : (x % s != 0) = true := by simpa using hw
        have HW := Lib.hid hw
        clear hw
        go_wp2
        go_ret
        exact ⟨ret_bool (by rw [E0.out, all_no EX.out (decide_eq_false HW.out)]), below_join hb1 hbr⟩
    · have he : k = (inner R).length := by omega
      have e1 : fitsB xs s = true := by
        have := HA.out
        rw [he, List.take_length] at this
        rw [E0.out, this]
      have E1 := Lib.hid e1
      have hk3 : (R.length : Int) ≤ (k : Int) + 1 + 1 := by omega
      have hk5 : k ≤ 500 := by omega
      clear e1 hil he
      go_wp2
      go_ret
      exact ⟨ret_bool E1.out.symm, below_join hb1 hbr⟩
end Go.Proofs.Ythkeodpejhmkbaa
