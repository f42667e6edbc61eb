/- The plain laws of packets that are heard, sent and damaged. -/
import Derived.Test.YtjamcfnclnpdkaaTalkDraw3
namespace Go.Proofs.Ytjamcfnclnpdkaa
open Go.RowKit

theorem hear_cases (x : Int) (xs : List Int) : hearR x xs = ⟨0, [], 0, false⟩ ∨
    (∃ T, 0 ≤ x ∧ x ≤ 1 ∧ 0 < T.length ∧ T.length ≤ 19 ∧ sumTakeB xs = true ∧ sumTakeL xs = x :: T ∧ hearR x xs = ⟨1 - x, T, x, true⟩) ∨
    (∃ u T, u ≠ x ∧ 0 ≤ x ∧ x ≤ 1 ∧ 0 ≤ u ∧ u ≤ 1 ∧ 0 < T.length ∧ T.length ≤ 19 ∧ sumTakeB xs = true ∧ sumTakeL xs = u :: T ∧ hearR x xs = ⟨x, [], u, true⟩) := by
  cases hB : hearB x xs
  · exact .inl (hearR_no hB)
  · right
    unfold hearB at hB
    simp only [Bool.and_eq_true, decide_eq_true_eq] at hB
    obtain ⟨hs, hl, hx, hu⟩ := hB
    have hlm : (sumTakeL xs).length ≤ 20 := by
      have h := hs
      simp only [sumTakeB, Bool.and_eq_true, decide_eq_true_eq] at h
      rw [sumTakeL, if_pos hs, List.length_take]; omega
    have hk := hearR_k hs hx hl
    have x01 : 0 ≤ x ∧ x ≤ 1 := by simp [turnB] at hx; omega
    cases hL : sumTakeL xs with
    | nil => rw [hL] at hl; simp at hl
    | cons u T =>
      rw [hL] at hk hl hu hlm
      simp only [List.headD_cons, List.tail_cons, List.length_cons] at hk hl hu hlm
      have u01 : 0 ≤ u ∧ u ≤ 1 := by simp [turnB] at hu; omega
      by_cases e : u = x
      · subst e
        rw [hearK_hit hu] at hk
        exact .inl ⟨T, x01.1, x01.2, by omega, by omega, hs, rfl, hk⟩
      · rw [hearK_miss hu e] at hk
        exact .inr ⟨u, T, e, x01.1, x01.2, u01.1, u01.2, by omega, by omega, hs, rfl, hk⟩

/-! ### A packet that is damaged -/
theorem sum_fold : ∀ (xs : List Int) (a b : Int), 0 ≤ a → a < 255 → (xs.foldl sumStep (a, b)).1 = (a + xs.sum) % 255
  | [], a, b, h0, h1 => by simp; omega
  | x :: l, a, b, h0, h1 => by
    rw [List.foldl_cons]
    show (l.foldl sumStep ((a + x) % 255, _)).1 = _
    rw [sum_fold l _ _ (by omega) (by omega)]
    simp
    omega
theorem sumL_fst (xs : List Int) : (sumL xs).1 = (1 + xs.sum) % 255 := sum_fold xs 1 0 (by omega) (by omega)
theorem sum_set : ∀ (xs : List Int) (k : Nat) (v v' : Int), xs[k]? = some v → (xs.set k v').sum = xs.sum + (v' - v)
  | [], k, v, v', h => by simp at h
  | x :: l, 0, v, v', h => by
    simp at h; subst h
    simp; omega
  | x :: l, k + 1, v, v', h => by
    have := sum_set l k v v' (by simpa using h)
    simp [this]; omega
theorem sumTakeB_not_byte {xs : List Int} (h : ∃ x ∈ xs, byteB x = false) : sumTakeB xs = false := by
  obtain ⟨x, hx, hb⟩ := h
  exact sumTakeB_bytes (List.all_eq_false.2 ⟨x, hx, by simp [hb]⟩)
theorem damage {xs : List Int} {k : Nat} {v v' : Int} (h : sumTakeB xs = true) (hv : xs[k]? = some v) (hd : v' = v - 1 ∨ v' = v + 1) : sumTakeB (xs.set k v') = false := by
  have hk : k < xs.length := (List.getElem?_eq_some_iff.1 hv).1
  have h0 := h
  unfold sumTakeB at h0
  simp only [Bool.and_eq_true, decide_eq_true_eq] at h0
  obtain ⟨hb, ⟨hl2, hl20⟩, hs⟩ := h0
  obtain ⟨n, hn⟩ : ∃ n, xs.length = n + 2 := ⟨xs.length - 2, by omega⟩
  have hux : xs[n]? = some (xs[n]'(by omega)) := List.getElem?_eq_getElem (by omega)
  have hvx : xs[n + 1]? = some (xs[n + 1]'(by omega)) := List.getElem?_eq_getElem (by omega)
  generalize (xs[n]'(by omega)) = p at hux
  generalize (xs[n + 1]'(by omega)) = q at hvx
  have h1 := sumTakeB_n hb hn (by omega) hux hvx
  rw [h] at h1
  have h1 := of_decide_eq_true h1.symm
  cases hb' : bytesB (xs.set k v')
  · exact sumTakeB_bytes hb'
  have hn' : (xs.set k v').length = n + 2 := by rw [List.length_set]; exact hn
  have hu' : (xs.set k v')[n]? = some (if k = n then v' else p) := by
    rw [List.getElem?_set]
    by_cases e : k = n
    · simp [e]; omega
    · simp [e, hux]
  have hv2 : (xs.set k v')[n + 1]? = some (if k = n + 1 then v' else q) := by
    rw [List.getElem?_set]
    by_cases e : k = n + 1
    · simp [e]; omega
    · simp [e, hvx]
  rw [sumTakeB_n hb' hn' (by omega) hu' hv2, decide_eq_false_iff_not]
  rintro ⟨e1, e2⟩
  by_cases hkn : k < n
  · rw [if_neg (by omega)] at e1
    have ht : (xs.set k v').take n = (xs.take n).set k v' := by rw [List.take_set]
    have hg : (xs.take n)[k]? = some v := by rw [List.getElem?_take]; simp [hkn, hv]
    rw [ht, sumL_fst, sum_set _ _ _ _ hg, ← h1.1, sumL_fst] at e1
    omega
  · have ht : (xs.set k v').take n = xs.take n := by rw [List.take_set, List.set_eq_of_length_le]; rw [List.length_take]; omega
    rw [ht] at e1 e2
    by_cases e : k = n
    · subst e
      rw [if_pos rfl] at e1
      rw [hux] at hv
      cases hv
      omega
    · have e' : k = n + 1 := by omega
      subst e'
      rw [if_pos rfl] at e2
      rw [hvx] at hv
      cases hv
      omega
theorem hear_damage {x : Int} {xs : List Int} {k : Nat} {v v' : Int} (h : sumTakeB xs = true) (hv : xs[k]? = some v) (hd : v' = v - 1 ∨ v' = v + 1) : hearR x (xs.set k v') = ⟨0, [], 0, false⟩ :=
  hearR_no (by simp [hearB, damage h hv hd])
end Go.Proofs.Ytjamcfnclnpdkaa
