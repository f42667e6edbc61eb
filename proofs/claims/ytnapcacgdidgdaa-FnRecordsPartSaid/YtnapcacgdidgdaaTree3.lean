/- Records: more forms of the contracts; facts for the laws. -/
import Derived.Test.YtnapcacgdidgdaaTree2
import Derived.Test.YtnapcacgdidgdaaRecDraw
namespace Go.Proofs.Ytnapcacgdidgdaa
open Go.RowKit

theorem heldRecordS_below (ao : Option Addr) (n c : Nat) (k0 : Int) (w : World) (h : Cells w ao (marks k0 (n * 3))) (hk0 : 0 ≤ k0) (hk1 : k0 + n * 3 ≤ 4611686018427387904) :
    Calls Try.prog 28 #[.slice ao n c, .int .i64 k0] w fun e w' => e = .returned (.int .i64 (k0 + n * 3)) ∧ Below w.heap.size w w' :=
  (heldRecordS_any ao n c k0 w h hk0 hk1).mono fun _ _ ⟨he, m, e⟩ => ⟨he, e ▸ below_drewN (Below.refl _ _) m⟩
theorem sameRecords_below (ao bo : Option Addr) (xs ys : List Rec) (c d : Nat) (w : World) (hx : Recs w ao xs) (hy : Recs w bo ys) (lx : xs.length ≤ 4611686018427387904) (ly : ys.length ≤ 4611686018427387904) :
    Calls Try.prog 27 #[.slice ao xs.length c, .slice bo ys.length d] w fun e w' => e = .returned (.bool (decide (xs = ys))) ∧ Below w.heap.size w w' :=
  (sameRecords_any ao bo xs ys c d w hx hy lx ly).mono fun _ _ ⟨he, m, e⟩ => ⟨he, e ▸ below_drewN (Below.refl _ _) m⟩
theorem betOf_at {rs : List Rec} {lo hi : Int} {k : Nat} {r : Rec} (h : rs[k]? = some r) (h1 : lo ≤ r.t) (h2 : r.t < hi) : (betOf rs lo hi)[(betOf (rs.take k) lo hi).length]? = some r := by
  have e1 := betOf_hit h h1 h2
  have e2 : betOf rs lo hi = betOf (rs.take (k + 1)) lo hi ++ betOf (rs.drop (k + 1)) lo hi := by
    unfold betOf
    rw [← List.filter_append, List.take_append_drop]
  rw [e2, e1, List.append_assoc, List.getElem?_append_right (Nat.le_refl _), Nat.sub_self]
  rfl
/-- What is left of valid records, in order, is valid. -/
theorem recsB_sub {rs qs : List Rec} (h : recsB rs = true) (hs : qs.Sublist rs) : recsB qs = true := by
  obtain ⟨h1, h2⟩ := recsB_iff.1 h
  have hp : rs.Pairwise (fun a b => a.t ≤ b.t) := by
    rw [List.pairwise_iff_getElem]
    intro i j hi hj hij
    induction j with
    | zero => omega
    | succ j ih =>
      have hx := List.getElem?_eq_getElem hj
      have hy := List.getElem?_eq_getElem (show j < rs.length by omega)
      have := ((h2 (j + 1) hj) _ hx).2 _ (by omega) (show rs[j + 1 - 1]? = _ by rw [Nat.add_sub_cancel]; exact hy)
      rcases Nat.lt_or_ge i j with hl | hl
      · have := ih (by omega) hl; omega
      · have : i = j := by omega
        subst this; exact this
  have hq := hp.sublist hs
  rw [recsB_iff]
  refine ⟨Nat.le_trans hs.length_le h1, fun k hk r hr => ⟨?_, fun q hk0 hqr => ?_⟩⟩
  · have hm := hs.subset (List.mem_of_getElem? hr)
    obtain ⟨j, hj, hjr⟩ := List.getElem_of_mem hm
    have := ((h2 j hj) _ (List.getElem?_eq_getElem hj)).1
    rwa [hjr] at this
  · rw [List.pairwise_iff_getElem] at hq
    obtain ⟨i1, e1⟩ := List.getElem?_eq_some_iff.1 hqr
    obtain ⟨i2, e2⟩ := List.getElem?_eq_some_iff.1 hr
    have := hq (k - 1) k i1 i2 (by omega)
    rwa [e1, e2] at this
theorem recsB_bet {rs : List Rec} (h : recsB rs = true) (lo hi : Int) : recsB (betOf rs lo hi) = true := recsB_sub h List.filter_sublist
/-- Times can be parted. -/
theorem bet_parts {rs : List Rec} (h : recsB rs = true) {lo k hi : Int} (h1 : lo ≤ k) (h2 : k ≤ hi) : betOf rs lo k ++ betOf rs k hi = betOf rs lo hi := by
  have hs := recsB_sorted h
  clear h
  have hp : ∀ (k : Nat) (q r : Rec) (i : Nat), rs[i]? = some q → rs[i + k]? = some r → q.t ≤ r.t := by
    intro k
    induction k with
    | zero => intro q r i hq hr; rw [Nat.add_zero, hq] at hr; injection hr with hr; subst hr; exact Int.le_refl _
    | succ k ih =>
      intro q r i hq hr
      have hl : i + (k + 1) < rs.length := (List.getElem?_eq_some_iff.1 hr).1
      have hx := List.getElem?_eq_getElem (show i + k < rs.length by omega)
      have := ih q _ i hq hx
      have := hs.2 (i + k) _ r hx hr
      omega
  clear hs
  induction rs with
  | nil => rfl
  | cons r rs ih =>
    have hp' : ∀ (k : Nat) (q r' : Rec) (i : Nat), rs[i]? = some q → rs[i + k]? = some r' → q.t ≤ r'.t := fun k q r' i hq hr => hp k q r' (i + 1) (by simpa using hq) (by rw [show i + 1 + k = (i + k) + 1 by omega]; simpa using hr)
    have ih' := ih hp'
    have hge : ∀ x ∈ rs, r.t ≤ x.t := by
      intro x hx
      obtain ⟨j, hj, rfl⟩ := List.getElem_of_mem hx
      exact hp (j + 1) r _ 0 rfl (by simp [List.getElem?_eq_getElem hj])
    by_cases hk : r.t < k
    · have e1 : betP k hi r = false := by simp [betP]; omega
      have e2 : betP lo k r = betP lo hi r := by
        unfold betP
        rw [decide_eq_true hk, decide_eq_true (show r.t < hi by omega)]
      unfold betOf at ih' ⊢
      rw [List.filter_cons, List.filter_cons, List.filter_cons, e1, e2]
      cases betP lo hi r
      · simpa using ih'
      · simp only [if_true, List.cons_append]
        congr 1
    · have e0 : betOf (r :: rs) lo k = [] := by
        unfold betOf
        rw [List.filter_eq_nil_iff]
        intro a ha
        have : r.t ≤ a.t := by
          rcases List.mem_cons.1 ha with e | e
          · rw [e]; exact Int.le_refl _
          · exact hge a e
        simp [betP]; omega
      rw [e0, List.nil_append]
      unfold betOf
      apply List.filter_congr
      intro a ha
      have : r.t ≤ a.t := by
        rcases List.mem_cons.1 ha with e | e
        · rw [e]; exact Int.le_refl _
        · exact hge a e
      unfold betP
      rw [decide_eq_true (show k ≤ a.t by omega), decide_eq_true (show lo ≤ a.t by omega)]
end Go.Proofs.Ytnapcacgdidgdaa
