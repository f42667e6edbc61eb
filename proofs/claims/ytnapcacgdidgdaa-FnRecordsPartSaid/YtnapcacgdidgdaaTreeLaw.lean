/- Records by their times: the groups of records that come in order of time, and what lies between two times. No program in sight. -/
import Derived.Test.YtnapcacgdidgdaaRec2
namespace Go.Proofs.Ytnapcacgdidgdaa
open Go.RowKit

/-- Groups of records: a time, and its records. -/
def putG : List (Int × List Rec) → Rec → List (Int × List Rec)
  | [], r => [(r.t, [r])]
  | (t, rs) :: G, r => if t < r.t then (t, rs) :: putG G r else (t, rs ++ [r]) :: G
def flatG (G : List (Int × List Rec)) : List Rec := G.flatMap (·.2)
/-- The times rise, each group is of its time, and no time is behind m. -/
def GroupsOk : Int → List (Int × List Rec) → Prop
  | _, [] => True
  | m, (t, rs) :: G => m < t ∧ (∀ r ∈ rs, r.t = t) ∧ GroupsOk t G
def maxG : Int → List (Int × List Rec) → Int
  | m, [] => m
  | _, (t, _) :: G => maxG t G
def betG (lo hi : Int) : List (Int × List Rec) → List Rec
  | [] => []
  | (t, rs) :: G => (if lo ≤ t ∧ t < hi then rs else []) ++ (if t < hi then betG lo hi G else [])
def betP (lo hi : Int) (r : Rec) : Bool := decide (lo ≤ r.t) && decide (r.t < hi)
def betOf (rs : List Rec) (lo hi : Int) : List Rec := rs.filter (betP lo hi)

theorem GroupsOk.weaken {m m' : Int} {G : List (Int × List Rec)} (h : GroupsOk m G) (hm : m' ≤ m) : GroupsOk m' G := by
  cases G with
  | nil => trivial
  | cons g G => obtain ⟨t, rs⟩ := g; exact ⟨by have := h.1; omega, h.2⟩
theorem maxG_le {m : Int} {G : List (Int × List Rec)} (h : GroupsOk m G) : m ≤ maxG m G := by
  induction G generalizing m with
  | nil => exact Int.le_refl _
  | cons g G ih => obtain ⟨t, rs⟩ := g; have := ih h.2.2; have := h.1; simp only [maxG]; omega
theorem putG_ok {m : Int} {G : List (Int × List Rec)} {r : Rec} (h : GroupsOk m G) (hr : maxG m G ≤ r.t) (hm : m < r.t) : GroupsOk m (putG G r) ∧ maxG m (putG G r) = r.t ∧ flatG (putG G r) = flatG G ++ [r] := by
  induction G generalizing m with
  | nil => exact ⟨⟨hm, by simp, trivial⟩, rfl, by simp [putG, flatG]⟩
  | cons g G ih =>
    obtain ⟨t, rs⟩ := g
    have h3 := maxG_le h.2.2
    simp only [maxG] at hr
    unfold putG
    split
    · rename_i ht
      obtain ⟨a, b, c⟩ := ih h.2.2 hr ht
      exact ⟨⟨h.1, h.2.1, a⟩, b, by unfold flatG at c ⊢; rw [List.flatMap_cons, List.flatMap_cons, c, List.append_assoc]⟩
    · rename_i ht
      have het : t = r.t := by omega
      cases G with
      | nil => exact ⟨⟨h.1, fun x hx => by rcases List.mem_append.1 hx with h4 | h4; exact h.2.1 x h4; simp at h4; rw [h4, het], trivial⟩, by simp [maxG, het], by simp [flatG]⟩
      | cons g2 G2 =>
        obtain ⟨t2, rs2⟩ := g2
        have h5 := maxG_le h.2.2.2.2
        have h6 := h.2.2.1
        simp only [maxG] at hr
        omega
theorem betG_flat {m lo hi : Int} {G : List (Int × List Rec)} (h : GroupsOk m G) : betG lo hi G = (flatG G).filter (betP lo hi) := by
  induction G generalizing m with
  | nil => rfl
  | cons g G ih =>
    obtain ⟨t, rs⟩ := g
    have e1 : rs.filter (betP lo hi) = if lo ≤ t ∧ t < hi then rs else [] := by
      split
      · rename_i h1
        rw [List.filter_eq_self]
        intro a ha
        have := h.2.1 a ha
        simp [betP]; omega
      · rename_i h1
        rw [List.filter_eq_nil_iff]
        intro a ha
        have := h.2.1 a ha
        simp [betP]; omega
    have e2 : flatG ((t, rs) :: G) = rs ++ flatG G := by simp [flatG]
    rw [e2, List.filter_append, e1]
    unfold betG
    congr 1
    split
    · exact ih h.2.2
    · rename_i h1
      symm
      rw [List.filter_eq_nil_iff]
      intro a ha
      have hlt : ∀ (m' : Int) (G' : List (Int × List Rec)), GroupsOk m' G' → ∀ a ∈ flatG G', m' < a.t := by
        intro m' G'
        induction G' generalizing m' with
        | nil => intro _ a ha; simp [flatG] at ha
        | cons g' G' ih' =>
          obtain ⟨t', rs'⟩ := g'
          intro hk a ha
          rw [show flatG ((t', rs') :: G') = rs' ++ flatG G' by simp [flatG]] at ha
          rcases List.mem_append.1 ha with h4 | h4
          · have := hk.2.1 a h4; have := hk.1; omega
          · have := ih' t' hk.2.2 a h4; have := hk.1; omega
      have := hlt t G h.2.2 a ha
      simp [betP]; omega
/-- The groups of a list. -/
def groupsOf (rs : List Rec) : List (Int × List Rec) := rs.foldl putG []
theorem groups_snoc (rs : List Rec) (r : Rec) : groupsOf (rs ++ [r]) = putG (groupsOf rs) r := by simp [groupsOf, List.foldl_append]
def SortedR (rs : List Rec) : Prop := (∀ r ∈ rs, 0 ≤ r.t) ∧ ∀ k q r, rs[k]? = some q → rs[k + 1]? = some r → q.t ≤ r.t
theorem groups_ok {rs : List Rec} (h : SortedR rs) : ∀ k, k ≤ rs.length → GroupsOk (-1) (groupsOf (rs.take k)) ∧ flatG (groupsOf (rs.take k)) = rs.take k ∧ (∀ r, rs[k]? = some r → maxG (-1) (groupsOf (rs.take k)) ≤ r.t) := by
  intro k
  induction k with
  | zero => exact fun _ => ⟨trivial, rfl, fun r hr => by have := h.1 r (List.mem_of_getElem? hr); show (-1 : Int) ≤ r.t; omega⟩
  | succ k ih =>
    intro hk
    obtain ⟨a, b, c⟩ := ih (by omega)
    have hx : rs[k]? = some rs[k] := List.getElem?_eq_getElem (by omega)
    have h0 := h.1 _ (List.mem_of_getElem? hx)
    have hp := putG_ok a (c _ hx) (by omega)
    rw [take_succ_of hx, groups_snoc]
    refine ⟨hp.1, by rw [hp.2.2, b], fun r hr => ?_⟩
    rw [hp.2.1]
    exact h.2 k _ r hx hr
theorem bet_groups {rs : List Rec} (h : SortedR rs) (lo hi : Int) : betG lo hi (groupsOf rs) = betOf rs lo hi := by
  have := groups_ok h rs.length (Nat.le_refl _)
  rw [List.take_length] at this
  rw [betG_flat this.1, this.2.1]
  rfl
theorem recsB_sorted {rs : List Rec} (h : recsB rs = true) : SortedR rs := by
  obtain ⟨_, h2⟩ := recsB_iff.1 h
  refine ⟨fun r hr => ?_, fun k q r hq hr => ?_⟩
  · obtain ⟨k, hk, rfl⟩ := List.getElem_of_mem hr
    have := ((h2 k hk) _ (List.getElem?_eq_getElem hk)).1
    simp [recB] at this
    omega
  · have hk : k + 1 < rs.length := (List.getElem?_eq_some_iff.1 hr).1
    exact ((h2 (k + 1) hk) r hr).2 q (by omega) (by simpa using hq)
theorem betOf_length (rs : List Rec) (lo hi : Int) : (betOf rs lo hi).length ≤ rs.length := List.length_filter_le _ _
theorem betOf_hit {rs : List Rec} {lo hi : Int} {k : Nat} {r : Rec} (h : rs[k]? = some r) (h1 : lo ≤ r.t) (h2 : r.t < hi) : betOf (rs.take (k + 1)) lo hi = betOf (rs.take k) lo hi ++ [r] := by
  rw [betOf, take_succ_of h, List.filter_append]; simp [betOf, betP, h1, h2]
theorem betOf_miss {rs : List Rec} {lo hi : Int} {k : Nat} {r : Rec} (h : rs[k]? = some r) (h1 : ¬ (lo ≤ r.t ∧ r.t < hi)) : betOf (rs.take (k + 1)) lo hi = betOf (rs.take k) lo hi := by
  have : betP lo hi r = false := by simp only [betP, Bool.and_eq_false_iff, decide_eq_false_iff_not]; omega
  rw [betOf, take_succ_of h, List.filter_append]; simp [betOf, this]
noncomputable def betL (rs : List Rec) (lo hi : Int) : List Rec := if recsB rs then betOf rs lo hi else []
theorem betL_length (rs : List Rec) (lo hi : Int) : (betL rs lo hi).length ≤ rs.length := by
  unfold betL
  split
  · exact betOf_length _ _ _
  · simp
end Go.Proofs.Ytnapcacgdidgdaa
