/- Rows of samples: the plain laws. -/
import Derived.Test.YthkeodpejhmkbaaSpeed
namespace Go.Proofs.Ythkeodpejhmkbaa
open Go.RowKit

theorem addRow_sum (L : List (Int × Int)) (x : Int) : ((addRow L x).map (·.2)).sum = (L.map (·.2)).sum + 1 := by
  rcases List.eq_nil_or_concat L with rfl | ⟨L', ⟨y, c⟩, rfl⟩
  · simp [addRow_nil]
  · rw [List.concat_eq_append]
    by_cases hy : y = x
    · subst hy; rw [addRow_same]; simp; omega
    · rw [addRow_new _ _ hy]; simp; omega
theorem rows_ind {p : List Int → List (Int × Int) → Prop} (h0 : p [] []) (h1 : ∀ xs L x, p xs L → p (xs ++ [x]) (addRow L x)) : ∀ xs, p xs (rows xs) := by
  have : ∀ n, ∀ xs : List Int, xs.length = n → p xs (rows xs) := by
    intro n
    induction n with
    | zero => intro xs h; obtain rfl := List.eq_nil_of_length_eq_zero h; exact h0
    | succ n ih =>
      intro xs h
      rcases List.eq_nil_or_concat xs with rfl | ⟨ys, x, rfl⟩
      · simp at h
      · rw [List.concat_eq_append] at h ⊢
        rw [rows_snoc]
        exact h1 _ _ _ (ih ys (by simp at h; omega))
  exact fun xs => this _ xs rfl
theorem runs_sum (xs : List Int) : (runs xs).sum = xs.length := by
  refine rows_ind (p := fun xs L => (L.map (·.2)).sum = (xs.length : Int)) (by simp) (fun xs L x h => ?_) xs
  try dsimp only at h ⊢
  rw [addRow_sum, h]; simp
theorem sum_step {L : List Int} {k : Nat} {c : Int} (h : L[k]? = some c) : (L.take (k + 1)).sum = (L.take k).sum + c := by
  rw [take_succ_of h]; simp
theorem sum_bd {L : List Int} (h : ∀ c ∈ L, 1 ≤ c ∧ c ≤ 500) (k : Nat) (hk : k ≤ L.length) : 0 ≤ (L.take k).sum ∧ (L.take k).sum ≤ 500 * k := by
  induction k with
  | zero => simp
  | succ k ih =>
    have hx : L[k]? = some L[k] := List.getElem?_eq_getElem (by omega)
    have := h _ (List.mem_of_getElem? hx)
    have := ih (by omega)
    rw [sum_step hx]
    omega
/-- Between two rows samples change. -/
theorem rows_edge {xs : List Int} {k : Nat} {x y : Int} (h : xs[k]? = some x) (h1 : xs[k + 1]? = some y) : (rows (xs.take (k + 1 + 1))).length = (rows (xs.take (k + 1))).length + if y = x then 0 else 1 := by
  obtain ⟨L, c, e⟩ := rows_last h
  rw [rows_step h1, e]
  by_cases hy : x = y
  · subst hy; rw [addRow_same]; simp
  · rw [addRow_new _ _ hy, if_neg (fun e => hy e.symm)]; simp
theorem rows_one {xs : List Int} {x : Int} (h : xs[0]? = some x) : (rows (xs.take 1)).length = 1 := by
  rw [show (1 : Nat) = 0 + 1 from rfl, rows_step h]; rfl
/-- Rows have no kind. -/
theorem addRow_turn (L : List (Int × Int)) (x : Int) : addRow (L.map fun p => (1 - p.1, p.2)) (1 - x) = (addRow L x).map fun p => (1 - p.1, p.2) := by
  rcases List.eq_nil_or_concat L with rfl | ⟨L', ⟨y, c⟩, rfl⟩
  · rfl
  · rw [List.concat_eq_append, List.map_append]
    by_cases hy : y = x
    · subst hy; rw [addRow_same]; simp only [List.map_cons, List.map_nil, List.map_append]; rw [addRow_same]
    · rw [addRow_new _ _ hy]; simp only [List.map_cons, List.map_nil, List.map_append]; rw [addRow_new _ _ (by omega)]
theorem rows_turn (xs : List Int) : rows (xs.map (1 - ·)) = (rows xs).map fun p => (1 - p.1, p.2) := by
  refine rows_ind (p := fun xs L => rows (xs.map (1 - ·)) = L.map fun p => (1 - p.1, p.2)) rfl (fun xs L x h => ?_) xs
  try dsimp only at h ⊢
  rw [List.map_append, List.map_cons, List.map_nil, rows_snoc, h, addRow_turn]
theorem runs_turn (xs : List Int) : runs (xs.map (1 - ·)) = runs xs := by
  unfold runs; rw [rows_turn, List.map_map]; rfl
theorem sampB_turn {xs : List Int} (h : sampB xs = true) : sampB (xs.map (1 - ·)) = true := by
  simp only [sampB, Bool.and_eq_true, decide_eq_true_eq, bitsB, List.all_eq_true] at h ⊢
  refine ⟨by rw [List.length_map]; exact h.1, fun x hx => ?_⟩
  obtain ⟨y, hy, rfl⟩ := List.mem_map.1 hx
  have := h.2 y hy
  simp only [bitP, decide_eq_true_eq] at this ⊢
  omega
theorem sampB_bit {xs : List Int} (h : sampB xs = true) {k : Nat} {x : Int} (hx : xs[k]? = some x) : 0 ≤ x ∧ x ≤ 1 := by
  simp only [sampB, Bool.and_eq_true, bitsB, List.all_eq_true] at h
  have := h.2 x (List.mem_of_getElem? hx)
  simp only [bitP, decide_eq_true_eq] at this
  omega
theorem runsL_turn {xs : List Int} (h : sampB xs = true) : runsL (xs.map (1 - ·)) = runsL xs := by
  unfold runsL; rw [sampB_turn h, h, runs_turn]
/-- The shortest row. -/
theorem least_min : ∀ (L : List Int) (a : Int), (∀ c ∈ L, 1 ≤ c) → (0 ≤ a ∨ a = -1) → (L.foldl leastF a = -1 ∧ L = [] ∧ a = -1) ∨ (0 ≤ L.foldl leastF a ∧ (∀ c ∈ L, L.foldl leastF a ≤ c) ∧ (L.foldl leastF a ∈ L ∨ L.foldl leastF a = a) ∧ (0 ≤ a → L.foldl leastF a ≤ a))
  | [], a, _, ha => by
    rcases ha with h | h
    · exact .inr ⟨h, (fun c hc => by cases hc), .inr rfl, fun _ => Int.le_refl _⟩
    · exact .inl ⟨h, rfl, h⟩
  | c :: L, a, h, ha => by
    have hc := h c (by simp)
    have hl : 0 ≤ leastF a c ∧ leastF a c ≤ c ∧ (0 ≤ a → leastF a c ≤ a) ∧ (leastF a c = c ∨ leastF a c = a) := by
      unfold leastF; split <;> omega
    rw [List.foldl_cons]
    rcases least_min L (leastF a c) (fun d hd => h d (by simp [hd])) (.inl hl.1) with ⟨_, _, e⟩ | ⟨h1, h2, h3, h4⟩
    · omega
    · have h5 := h4 hl.1
      refine .inr ⟨h1, fun d hd => ?_, ?_, fun h0 => ?_⟩
      · rcases List.mem_cons.1 hd with rfl | hd
        · omega
        · exact h2 d hd
      · rcases h3 with h3 | h3
        · exact .inl (List.mem_cons_of_mem _ h3)
        · rcases hl.2.2.2 with e | e
          · left; rw [h3, e]; simp
          · right; rw [h3, e]
      · have := hl.2.2.1 h0; omega
theorem speedL_min {xs : List Int} (h : 0 ≤ speedL xs) : (∀ c ∈ inner (runsL xs), speedL xs ≤ c) ∧ speedL xs ∈ inner (runsL xs) := by
  rcases least_min (inner (runsL xs)) (-1) (fun c hc => ((runsL_bd xs).2 c (inner_mem hc)).1) (.inr rfl) with ⟨e, _, _⟩ | ⟨h1, h2, h3, _⟩
  · unfold speedL at h; omega
  · refine ⟨h2, ?_⟩
    rcases h3 with h3 | h3
    · exact h3
    · unfold speedL at h; omega
theorem speedL_none {xs : List Int} : speedL xs = -1 ∨ 0 ≤ speedL xs := by
  rcases least_min (inner (runsL xs)) (-1) (fun c hc => ((runsL_bd xs).2 c (inner_mem hc)).1) (.inr rfl) with ⟨e, _, _⟩ | ⟨h1, _⟩
  · exact .inl e
  · exact .inr h1
/-- Whether some, whether all of the first ones. -/
def someP (m : Int) (L : List Int) : Bool := L.any fun c => c == m
theorem some_step {L : List Int} {k : Nat} {c m : Int} (h : L[k]? = some c) : someP m (L.take (k + 1)) = (someP m (L.take k) || (c == m)) := by
  rw [take_succ_of h]; simp [someP, List.any_append]
theorem whole_step {L : List Int} {k : Nat} {c s : Int} (h : L[k]? = some c) : (L.take (k + 1)).all (wholeP s) = ((L.take k).all (wholeP s) && wholeP s c) := by
  rw [take_succ_of h]; simp [List.all_append]
theorem fits_one {xs : List Int} {s : Int} (h : fitsB xs s = true) : fitsB xs 1 = true := by
  simp only [fitsB, Bool.and_eq_true, decide_eq_true_eq] at h ⊢
  refine ⟨h.1, by omega, ?_⟩
  rw [List.all_eq_true]
  intro c _
  simp [wholeP]
theorem fits_speed {xs : List Int} {s : Int} (h : fitsB xs s = true) (h0 : 0 ≤ speedL xs) : speedL xs % s = 0 := by
  simp only [fitsB, Bool.and_eq_true, List.all_eq_true] at h
  have := h.2.2 _ (speedL_min h0).2
  simpa [wholeP] using this
end Go.Proofs.Ythkeodpejhmkbaa
