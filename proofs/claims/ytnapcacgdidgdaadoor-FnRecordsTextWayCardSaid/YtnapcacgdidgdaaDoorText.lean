/- Records as a text: plain laws. No program in sight. -/
import Derived.Test.YtnapcacgdidgdaaDoorRec
import Derived.Lib.ItoaNum
namespace Go.Proofs.YtnapcacgdidgdaaDoor
open Go.RowKit

/-- A digit of base 16. -/
def hexB (n : Int) : UInt8 := UInt8.ofNat (if n < 10 then 48 + n.toNat else 87 + n.toNat)
def signB (x : Int) : UInt8 := if x = 0 then 60 else 62
def lineOf (r : Rec) : List UInt8 := Lib.decDigits r.t.toNat ++ ([32, signB r.w, 32] ++ [hexB (r.b / 16), hexB (r.b % 16), 10])
def textOf (rs : List Rec) : List UInt8 := rs.flatMap lineOf
noncomputable def textL (rs : List Rec) : List UInt8 := if recsB rs then textOf rs else []
theorem textL_yes {rs : List Rec} (h : recsB rs = true) : textL rs = textOf rs := by simp [textL, h]
theorem textL_no {rs : List Rec} (h : recsB rs = false) : textL rs = [] := by simp [textL, h]
theorem textOf_snoc {rs : List Rec} {k : Nat} {r : Rec} (h : rs[k]? = some r) : textOf (rs.take (k + 1)) = textOf (rs.take k) ++ lineOf r := by
  rw [textOf, take_succ_of h, List.flatMap_append]; simp [textOf]
theorem textOf_one (r : Rec) : textOf [r] = lineOf r := by simp [textOf]
theorem dec_len (k : Nat) : ∀ u, u < 10 ^ (k + 1) → (Lib.decDigits u).length ≤ k + 1 := by
  induction k with
  | zero => intro u hu; rw [Lib.decDigits, dif_pos (by simpa using hu)]; simp
  | succ k ih =>
    intro u hu
    rw [Lib.decDigits]
    split
    · simp
    · rw [List.length_append]
      have := ih (u / 10) (by rw [Nat.pow_succ] at hu; omega)
      simp only [List.length_cons, List.length_nil]
      omega
theorem recB_facts {r : Rec} (h : recB r = true) : 0 ≤ r.t ∧ r.t ≤ 9999 ∧ 0 ≤ r.w ∧ r.w ≤ 1 ∧ 0 ≤ r.b ∧ r.b ≤ 255 := by simpa [recB] using h
theorem dec4 {r : Rec} (h : recB r = true) : (Lib.decDigits r.t.toNat).length ≤ 4 := dec_len 3 _ (by have := recB_facts h; omega)
theorem lineOf_eq (r : Rec) : (lineOf r).length = (Lib.decDigits r.t.toNat).length + 6 := by simp [lineOf]
theorem lineOf_len {r : Rec} (h : recB r = true) : (lineOf r).length ≤ 10 := by have := dec4 h; have := lineOf_eq r; omega
theorem recsB_at {rs : List Rec} (h : recsB rs = true) {k : Nat} {r : Rec} (hr : rs[k]? = some r) : recB r = true := ((recsB_iff.1 h).2 k (List.getElem?_eq_some_iff.1 hr).1 r hr).1
theorem recsB_mem {rs : List Rec} (h : recsB rs = true) : ∀ r ∈ rs, recB r = true := fun r hr => by
  obtain ⟨k, hk⟩ := List.getElem?_of_mem hr
  exact recsB_at h hk
theorem textOf_len : ∀ {rs : List Rec}, (∀ r ∈ rs, recB r = true) → (textOf rs).length ≤ 10 * rs.length
  | [], _ => by simp [textOf]
  | r :: rs, h => by
    have := textOf_len (rs := rs) fun q hq => h q (List.mem_cons_of_mem _ hq)
    have := lineOf_len (h r (by simp))
    simp only [textOf, List.flatMap_cons, List.length_append, List.length_cons] at *
    omega
theorem textOf_take_len {rs : List Rec} (h : recsB rs = true) (k : Nat) : (textOf (rs.take k)).length ≤ 300 := by
  have h1 := textOf_len (rs := rs.take k) fun r hr => recsB_mem h r (List.mem_of_mem_take hr)
  have h2 := (recsB_iff.1 h).1
  have h3 := List.length_take_le' k rs
  omega
theorem textL_len (rs : List Rec) : (textL rs).length ≤ 300 := by
  cases h : recsB rs
  · simp [textL_no h]
  · rw [textL_yes h]; have := textOf_take_len h rs.length; rwa [List.take_length] at this
theorem recsB_one {rs : List Rec} (h : recsB rs = true) {k : Nat} {r : Rec} (hr : rs[k]? = some r) : recsB [r] = true := by
  refine recsB_yes ⟨by simp, fun j hj => ?_⟩
  obtain rfl : j = 0 := by simpa using hj
  exact recAt_yes rfl (recsB_at h hr) fun q hq => absurd hq (by omega)
theorem textL_one {rs : List Rec} (h : recsB rs = true) {k : Nat} {r : Rec} (hr : rs[k]? = some r) : textL [r] = lineOf r := by rw [textL_yes (recsB_one h hr), textOf_one]
/-- The last byte of a line. -/
theorem lineOf_last (r : Rec) : (lineOf r)[(lineOf r).length - 1]? = some 10 := by
  have e : lineOf r = (Lib.decDigits r.t.toNat ++ [32, signB r.w, 32, hexB (r.b / 16), hexB (r.b % 16)]) ++ [10] := by simp [lineOf]
  rw [e, List.length_append, List.getElem?_append_right (by simp)]
  simp

/-- The other way. -/
def turnW (r : Rec) : Rec := ⟨r.t, 1 - r.w, r.b⟩
theorem turnW_len (r : Rec) : (lineOf (turnW r)).length = (lineOf r).length := by rw [lineOf_eq, lineOf_eq]; rfl
theorem textOf_turn_len : ∀ rs : List Rec, (textOf (rs.map turnW)).length = (textOf rs).length
  | [] => rfl
  | r :: rs => by
    have := textOf_turn_len rs
    have := turnW_len r
    simp only [textOf, List.map_cons, List.flatMap_cons, List.length_append] at *
    omega
theorem turnW_valid {r : Rec} (h : recB r = true) : recB (turnW r) = true := by
  have := recB_facts h
  unfold recB turnW
  exact decide_eq_true (by dsimp only; omega)
theorem recsB_turn {rs : List Rec} (h : recsB rs = true) : recsB (rs.map turnW) = true := by
  have h' := recsB_iff.1 h
  refine recsB_yes ⟨by rw [List.length_map]; exact h'.1, fun k hk r hr => ?_⟩
  rw [List.length_map] at hk
  rw [List.getElem?_map, Option.map_eq_some_iff] at hr
  obtain ⟨r0, hr0, rfl⟩ := hr
  obtain ⟨h1, h2⟩ := h'.2 k hk r0 hr0
  refine ⟨turnW_valid h1, fun q hq0 hq => ?_⟩
  rw [List.getElem?_map, Option.map_eq_some_iff] at hq
  obtain ⟨q0, hq1, rfl⟩ := hq
  exact h2 q0 hq0 hq1
theorem turnW_sign {r : Rec} (h : recB r = true) : signB (turnW r).w ≠ signB r.w := by
  have := recB_facts h
  have h2 : (turnW r).w = 1 - r.w := rfl
  rcases (show r.w = 0 ∨ r.w = 1 by omega) with h0 | h0
  · rw [h2, h0]; decide
  · rw [h2, h0]; decide
theorem textOf_turn_ne {rs : List Rec} (h : recsB rs = true) (h0 : rs ≠ []) : textOf (rs.map turnW) ≠ textOf rs := by
  cases rs with
  | nil => exact absurd rfl h0
  | cons r rs =>
    intro e
    have hr : recB r = true := recsB_mem h r (by simp)
    simp only [textOf, List.map_cons, List.flatMap_cons, lineOf, turnW, List.append_assoc] at e
    have e2 := List.append_cancel_left e
    simp only [List.cons_append, List.cons.injEq] at e2
    exact turnW_sign hr (by simpa [turnW] using e2.2.1)
end Go.Proofs.YtnapcacgdidgdaaDoor
