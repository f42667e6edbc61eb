/- Drivers: what the laws of bytes that are to be sent need. -/
import Derived.Test.YtkmampichfbppaaDrvLaw2
namespace Go.Proofs.Ytkmampichfbppaa
open Go.RowKit

theorem enP_bound {en : Int} (h0 : 0 ≤ en) (h1 : en ≤ 15) : 0 ≤ enP en ∧ enP en ≤ 15 ∧ enP en / 2 % 2 = 1 := by
  unfold enP
  split
  · exact ⟨h0, h1, by assumption⟩
  · omega
theorem enP_twice {en : Int} (h0 : 0 ≤ en) (h1 : en ≤ 15) : enP (enP en) = enP en := by
  have := (enP_bound h0 h1).2.2
  rw [show enP (enP en) = if enP en / 2 % 2 = 1 then enP en else enP en + 2 from rfl, if_pos this]
theorem bytesB_app {xs ys : List Int} (h : bytesB xs = true) (k : bytesB ys = true) : bytesB (xs ++ ys) = true := by
  simp only [bytesB, List.all_append, Bool.and_eq_true] at h k ⊢
  exact ⟨h, k⟩
theorem drvB_send {d : DrvD} {ls : List Int} {e : Int} (h : drvB d = true) (he : 0 ≤ e ∧ e ≤ 15) (hb : bytesB ls = true) (hn : d.o.length + ls.length ≤ 32) :
    drvB { d with p := { d.p with en := e }, o := d.o ++ ls } = true := by
  simp only [drvB, portB, ringB, inB, Bool.and_eq_true, decide_eq_true_eq] at h ⊢
  refine ⟨⟨h.1.1, he, h.1.2.2⟩, h.2.1, ⟨?_, bytesB_app h.2.2.1.2 hb⟩, h.2.2.2⟩
  rw [List.length_append]; omega
theorem sendE_facts {d : DrvD} {ls : List Int} (h : drvB d = true) : 0 ≤ sendE d ls ∧ sendE d ls ≤ 15 ∧ (0 < d.o.length + ls.length → sendE d ls / 2 % 2 = 1) := by
  have h1 := drvB_en h
  have h2 := enP_bound h1.1 h1.2.1
  unfold sendE
  split
  · exact ⟨h1.1, h1.2.1, fun h => by omega⟩
  · exact ⟨h2.1, h2.2.1, fun _ => h2.2.2⟩
theorem send_facts {d : DrvD} {ls : List Int} (h : sendB d ls = true) : drvB d = true ∧ d.o.length + ls.length ≤ 32 ∧ (0 ≤ sendE d ls ∧ sendE d ls ≤ 15) ∧ (0 < d.o.length + ls.length → sendE d ls / 2 % 2 = 1) ∧ drvB { d with p := { d.p with en := sendE d ls }, o := d.o ++ ls } = true := by
  simp only [sendB, Bool.and_eq_true, decide_eq_true_eq] at h
  have hn : d.o.length + ls.length ≤ 32 := by omega
  have hE := sendE_facts (ls := ls) h.1
  exact ⟨h.1, hn, ⟨hE.1, hE.2.1⟩, hE.2.2, drvB_send h.1 ⟨hE.1, hE.2.1⟩ h.2.1 hn⟩
theorem send_ok {d d2 : DrvD} {ls : List Int} (h : sendR d ls = ⟨d2, true⟩) : sendB d ls = true := by
  cases hb : sendB d ls
  · rw [sendR_no hb] at h; cases h
  · rfl
theorem bytesB_take {xs : List Int} (h : bytesB xs = true) (k : Nat) : bytesB (xs.take k) = true ∧ bytesB (xs.drop k) = true := by
  simp only [bytesB, List.all_eq_true] at h ⊢
  exact ⟨fun x hx => h x (List.mem_of_mem_take hx), fun x hx => h x (List.mem_of_mem_drop hx)⟩
theorem send_parts {d d2 : DrvD} {ls : List Int} {K : Nat} (hR : sendR d ls = ⟨d2, true⟩) (hK : K ≤ ls.length) (hl : DrvL d) :
    ∃ d3, sendR d (ls.take K) = ⟨d3, true⟩ ∧ sendR d3 (ls.drop K) = ⟨d2, true⟩ ∧ DrvL d3 := by
  have hB := send_ok hR
  have hf := send_facts hB
  have hB' := hB
  simp only [sendB, Bool.and_eq_true, decide_eq_true_eq] at hB'
  have hbt := bytesB_take hB'.2.1 K
  have hlt : (ls.take K).length = K := by rw [List.length_take]; omega
  have hld : (ls.drop K).length = ls.length - K := List.length_drop
  have hB1 : sendB d (ls.take K) = true := by simp only [sendB, hB'.1, hbt.1, Bool.true_and, decide_eq_true_eq, hlt]; omega
  have hE1 := sendE_facts (ls := ls.take K) hf.1
  have hen := drvB_en hf.1
  have hv3 := drvB_send (e := sendE d (ls.take K)) hf.1 ⟨hE1.1, hE1.2.1⟩ hbt.1 (by omega)
  have hB3 : sendB { d with p := { d.p with en := sendE d (ls.take K) }, o := d.o ++ ls.take K } (ls.drop K) = true := by
    simp only [sendB, hv3, hbt.2, Bool.true_and, decide_eq_true_eq, List.length_append, hlt, hld]; omega
  have hE : sendE { d with p := { d.p with en := sendE d (ls.take K) }, o := d.o ++ ls.take K } (ls.drop K) = sendE d ls := by
    simp only [sendE, List.length_append, hlt, hld]
    by_cases h0 : d.o.length + ls.length = 0
    · rw [if_pos (by omega), if_pos (by omega), if_pos h0]
    · rw [if_neg (by omega), if_neg h0]
      split
      · rfl
      · exact enP_twice hen.1 hen.2.1
  rw [sendR_yes hB rfl] at hR
  injection hR with h1 _
  refine ⟨_, sendR_yes hB1 rfl, (sendR_yes hB3 rfl).trans ?_, hl.1, hl.2.1, hl.2.2.1, ?_⟩
  · rw [hE, ← h1]
    simp only [List.append_assoc, List.take_append_drop]
  · dsimp only
    rw [List.length_append, hlt]; omega
end Go.Proofs.Ytkmampichfbppaa
