/- Records: parts of a row of them; the draw of a text's records. -/
import Derived.Test.YtnapcacgdidgdaaDoorRecDraw
namespace Go.Proofs.YtnapcacgdidgdaaDoor
open Go.RowKit

theorem Recs.take {w : World} {ao : Option Addr} {rs : List Rec} (h : Recs w ao rs) (m : Nat) : Recs w ao (rs.take m) := by
  rcases h with h | ⟨b, off, h, hc⟩
  · left
    have : rs = [] := by
      cases rs with
      | nil => rfl
      | cons r rs => simp [recCells] at h
    subst this; simp
  · refine .inr ⟨b, off, h, fun j u hu => hc j u ?_⟩
    have e : rs.flatMap recCells = (rs.take m).flatMap recCells ++ (rs.drop m).flatMap recCells := by rw [← List.flatMap_append, List.take_append_drop]
    rw [e, List.getElem?_append_left (List.getElem?_eq_some_iff.1 hu).1]
    exact hu
theorem Recs.drop {w : World} {b off : Nat} {rs : List Rec} (h : Recs w (some ⟨b, off, none⟩) rs) (m : Nat) (hm : m ≤ rs.length) : Recs w (some ⟨b, off + m * 3, none⟩) (rs.drop m) := by
  rcases h with h | ⟨b', off', h, hc⟩
  · left
    have : rs = [] := by
      cases rs with
      | nil => rfl
      | cons r rs => simp [recCells] at h
    subst this; simp
  · injection h with h
    injection h with h1 h2 _
    subst h1 h2
    refine .inr ⟨b, off + m * 3, rfl, fun j u hu => ?_⟩
    rw [Nat.add_assoc]
    refine hc (m * 3 + j) u ?_
    have e : rs.flatMap recCells = (rs.take m).flatMap recCells ++ (rs.drop m).flatMap recCells := by rw [← List.flatMap_append, List.take_append_drop]
    have hl : ((rs.take m).flatMap recCells).length = m * 3 := by rw [flatN_length recCells 3 recCells_length, List.length_take, Nat.min_eq_left hm]
    rw [e, List.getElem?_append_right (by omega), hl, Nat.add_sub_cancel_left]
    exact hu
theorem recs_dropA {w : World} {ad : Addr} {rs : List Rec} (h : Recs w (some ad) rs) (m : Nat) (hm : m ≤ rs.length) : Recs w (some (ad.add (m * 3))) (rs.drop m) := by
  have hh := h
  rcases hh with h0 | ⟨b, off, h1, _⟩
  · left
    have : rs = [] := by
      cases rs with
      | nil => rfl
      | cons r rs => simp [recCells] at h0
    subst this; simp
  · injection h1 with h1
    subst h1
    rw [Addr.add_lit]
    exact Recs.drop h m hm
theorem recs_one_at {w : World} {ad : Addr} {rs : List Rec} (h : Recs w (some ad) rs) {k : Nat} {r : Rec} (hr : rs[k]? = some r) : Recs w (some (ad.add (k * 3))) [r] := by
  have hk : k < rs.length := (List.getElem?_eq_some_iff.1 hr).1
  have e : (rs.drop k).take 1 = [r] := by
    rw [List.drop_eq_getElem_cons hk]
    have := (List.getElem?_eq_some_iff.1 hr).2
    simp [this]
  rw [← e]
  exact (recs_dropA h k (Nat.le_of_lt hk)).take 1

theorem recs_one (rs : List Rec) : ∀ u ∈ rs.flatMap recCells, u.oneCell' = true := by
  intro u hu
  obtain ⟨r, _, h⟩ := List.mem_flatMap.1 hu
  simp [recCells] at h
  rcases h with rfl | rfl | rfl <;> rfl
theorem own_nilcap {w : World} {base e size n c : Nat} {ao : Option Addr} {vs : List Value} (h : w.ownsRow base e size (.slice ao n c) n vs) : ao = none → n = 0 ∧ c = 0 := by
  intro e
  subst e
  rcases h.2 with ⟨hv, h0⟩ | ⟨g, cap, cur, hv, _⟩
  · exact ⟨h0, by injection hv⟩
  · injection hv with h1
    cases h1
theorem own_capmax {w : World} {base e size n c : Nat} {ao : Option Addr} {vs : List Value} (h : w.ownsRow base e size (.slice ao n c) n vs) : c ≤ 9223372036854775807 := by
  rcases h.2 with ⟨hv, _⟩ | ⟨g, cap, cur, hv, _, _, _, hm, _⟩
  · have : c = 0 := by injection hv
    omega
  · have : c = cap := by injection hv
    unfold maxLen at hm
    omega
theorem drawRecordsText_any (ao : Option Addr) (bs : List Int) (c : Nat) (w : World) (h : Bytes w ao bs) (hc : bs.length ≤ c) (lx : bs.length ≤ 1048576) :
    Calls Tryd.prog 6 #[.slice ao bs.length c] w fun e w' => ∃ ao' c' rs, e = .returned (.slice ao' rs.length c') ∧ OwnR w' w.heap.size ao' c' rs ∧ rs.length ≤ 31 ∧ Below w.heap.size w w' := by
  go_enter Tryd.func6, Tryd.ntmps6
  go_wp2_with fail
  refine (l6Open_any ao bs c w h hc (by omega)).mono ?_
  rintro e w1 ⟨rb, rfl, hrb, R1, b1⟩
  go_wp2_with fail
  refine (l92Records_any rb 0 w1 R1 (by omega)).mono ?_
  rintro e w2 ⟨a2, c2, rs, rfl, o2, hl, R2, g2⟩
  go_wp2
  go_ret
  exact ⟨a2, c2, rs, rfl, o2.base b1.size, hl, below_only b1 g2 hrb⟩
end Go.Proofs.YtnapcacgdidgdaaDoor
