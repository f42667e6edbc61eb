/- The plain laws of packets that are sent. -/
import Derived.Test.YtjamcfnclnpdkaaTalkLaw
namespace Go.Proofs.Ytjamcfnclnpdkaa
open Go.RowKit

theorem ints_grow {w w' : World} {ao : Option Addr} {xs : List Int} {g n c : Nat} (h : Ints w ao xs) (hg : w.grownBy w' (Value.slice (some ⟨g, 0, none⟩) n c).ownBlock) (hne : ∀ q, ao = some q → q.block ≠ g) : Ints w' ao xs := by
  rcases h with h | ⟨b, off, h, hc⟩
  · exact .inl h
  · refine .inr ⟨b, off, h, fun j u hu => hg.cell (hc j u hu) ?_⟩
    have := hne _ h
    simp [Value.ownBlock]
    exact this
theorem ints_lt {w : World} {ao : Option Addr} {x : Int} {l : List Int} (h : Ints w ao (x :: l)) : ∀ q, ao = some q → q.block < w.heap.size := by
  intro q hq
  obtain ⟨b, off, y, h1, _, hc⟩ := h.at_ (k := 0) (by simp)
  rw [hq] at h1
  injection h1 with h1
  subst h1
  exact World.block_lt_of_cell? w _ hc
/-- append at a guarded operation whose guard holds. -/
theorem wpList_append_row_g {P : Program} (w : World) {ops : Array Oper} {rest : List Oper} {o : Oper} {a : Act} {Q : Exit → Act → World → Prop}
    (hw : Region.wanted o (yielded ops a.tmps) = true) (s x : Operand) (t : TypeId) (ho : o.op = .call { callee := .builtin .append, args := #[s, x], argTypes := #[t, t] })
    (base : Nat) (e : TypeId) (z : Value) (size bytes : Nat) (ht : P.underlying t = some (.slice e)) (hi : (P.info? e).map (fun i => (i.zero, i.size, i.bytes)) = some (some z, size, bytes))
    (hzs : z.cells.size = size) (hsz : 0 < size)
    (ao : Option Addr) (n c : Nat) (xs : List Value) (hs : a.eval s = .slice ao n c) (hown : w.ownsRow base e size (.slice ao n c) n xs)
    (A : Option Addr) (m d : Nat) (news : List Value) (hx : a.eval x = .slice A m d) (hnews : Cells w A news) (hlen : news.length = m * size) (h1 : ∀ u ∈ news, u.oneCell' = true)
    (hA : A = none → m = 0 ∧ d = 0)
    (h63 : n + m ≤ maxLen) (hbytes : (n + m) * bytes ≤ 140737488355328) (hbase : base ≤ w.heap.size)
    (h : ∀ ao' c' w', w'.ownsRow base e size (.slice ao' (n + m) c') (n + m) (xs ++ news) → w.grownBy w' (Value.slice ao n c).ownBlock → wpList P ops Q rest (a.put o.dst (.slice ao' (n + m) c')) w') : wpList P ops Q (o :: rest) a w := by
  unfold wpList
  rw [if_pos hw]
  exact .inl (wp_append_row w s x t ho base e z size bytes ht hi hzs hsz ao n c xs hs hown A m d news hx hnews hlen h1 hA h63 hbytes hbase h)
theorem late_cases (n t : Int) (xs : List Int) : lateR n t xs = ⟨⟨0, 0, []⟩, [], false⟩ ∨ (talkB n t xs = true ∧ 0 < t ∧ t < 5 ∧ bodyB xs = true ∧ lateR n t xs = ⟨⟨n, t + 1, xs⟩, packetL n xs, true⟩) := by
  cases h : lateB n t xs
  · left; simp [lateR, h, TkR.no, noTk]
  · right
    have h' := h
    simp only [lateB, Bool.and_eq_true, decide_eq_true_eq] at h
    exact ⟨h.1, h.2.1, h.2.2, (talkB_facts h.1).2.2.2.2 h.2.1, by simp [lateR, h']⟩
theorem send_cases (n t : Int) (xs ys : List Int) : sendR n t xs ys = ⟨⟨0, 0, []⟩, [], false⟩ ∨ (talkB n t xs = true ∧ t = 0 ∧ xs = [] ∧ bodyB ys = true ∧ sendR n t xs ys = ⟨⟨n, 1, ys⟩, packetL n ys, true⟩) := by
  cases h : sendB n t xs ys
  · left; simp [sendR, h, TkR.no, noTk]
  · right
    have h' := h
    simp only [sendB, Bool.and_eq_true, decide_eq_true_eq] at h
    exact ⟨h.1, h.2.1, (talkB_facts h.1).2.2.2.1 h.2.1, h.2.2, by simp [sendR, h']⟩
theorem send_yes {n : Int} {ys : List Int} (hn : turnB n = true) (hb : bodyB ys = true) : sendR n 0 [] ys = ⟨⟨n, 1, ys⟩, packetL n ys, true⟩ := by
  have : sendB n 0 [] ys = true := by simp [sendB, talkB, hn, hb]
  simp [sendR, this]
theorem send_busy (n : Int) (xs ys : List Int) : sendR n 1 xs ys = ⟨⟨0, 0, []⟩, [], false⟩ := by
  have : sendB n 1 xs ys = false := by simp [sendB]
  simp [sendR, this, TkR.no, noTk]
theorem talkB_one {n : Int} {ys : List Int} (hn : turnB n = true) (hb : bodyB ys = true) : talkB n 1 ys = true := by
  rw [talkB_some hn (by omega) (by omega)]; exact hb
theorem turnB_flip {n : Int} (hn : turnB n = true) : turnB (1 - n) = true := by simp [turnB] at hn ⊢; omega
theorem late_end (n : Int) (xs : List Int) : lateR n 5 xs = ⟨⟨0, 0, []⟩, [], false⟩ := by
  have : lateB n 5 xs = false := by simp [lateB]
  simp [lateR, this, TkR.no, noTk]
theorem late_yes {n t : Int} {xs : List Int} (hn : turnB n = true) (hb : bodyB xs = true) (h0 : 0 < t) (h5 : t < 5) : lateR n t xs = ⟨⟨n, t + 1, xs⟩, packetL n xs, true⟩ := by
  have hv : talkB n t xs = true := by rw [talkB_some hn h0 (by omega)]; exact hb
  have : lateB n t xs = true := by simp [lateB, hv]; omega
  simp [lateR, this]

theorem take_put {l : List Int} (hb : bytesB l = true) (hl : l.length ≤ 18) : sumTakeB (sumPutL l) = true ∧ sumTakeL (sumPutL l) = l := by
  have hlen : (sumPutL l).length = l.length + 2 := sumPutL_length l
  have ht : (sumPutL l).take l.length = l := by simp [sumPutL]
  have hbd := sumL_bd l
  have hby : bytesB (sumPutL l) = true := by
    unfold sumPutL bytesB
    rw [List.all_append]
    have h1 : l.all byteB = true := hb
    rw [h1]
    simp [byteB]
    omega
  have h1 : sumTakeB (sumPutL l) = true := by
    rw [sumTakeB_n (n := l.length) hby hlen hl (u := (sumL l).1) (v := (sumL l).2) (by simp [sumPutL]) (by simp [sumPutL]), ht]
    simp
  exact ⟨h1, by rw [sumTakeL_n hlen h1, ht]⟩
theorem take_packet {n : Int} {ys : List Int} (hn : turnB n = true) (hb : bodyB ys = true) : sumTakeB (packetL n ys) = true ∧ sumTakeL (packetL n ys) = n :: ys := by
  have bf := bodyB_facts hb
  exact take_put (turn_byte hn bf.2.2) (by simp; omega)
theorem hear_packet {n : Int} {ys : List Int} (hn : turnB n = true) (hb : bodyB ys = true) : hearR n (packetL n ys) = ⟨1 - n, ys, n, true⟩ ∧ hearR (1 - n) (packetL n ys) = ⟨1 - n, [], n, true⟩ := by
  have bf := bodyB_facts hb
  have tp := take_packet hn hb
  have n01 : n = 0 ∨ n = 1 := by simpa [turnB] using hn
  constructor
  · rw [hearR_k tp.1 hn (by rw [tp.2]; simp; omega), tp.2]
    exact hearK_hit hn
  · rw [hearR_k tp.1 (turnB_flip hn) (by rw [tp.2]; simp; omega), tp.2]
    have hne : n ≠ 1 - n := by omega
    exact hearK_miss hn hne
end Go.Proofs.Ytjamcfnclnpdkaa
