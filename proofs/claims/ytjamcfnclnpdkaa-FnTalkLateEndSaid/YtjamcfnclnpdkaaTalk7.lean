/- The contracts of the talks in one form: arguments that are the call's own rows, results that are its own rows. -/
import Derived.Test.YtjamcfnclnpdkaaTalk5
import Derived.Test.YtjamcfnclnpdkaaTalk6
namespace Go.Proofs.Ytjamcfnclnpdkaa
open Go.RowKit

theorem box_mark {w w' : World} {b lo hi n c : Nat} {ao : Option Addr} {o : Obj} (h : w.heap[b]? = some o) (i : In lo hi ao) (hd : b < lo ∨ hi ≤ b) (hg : w.grownBy w' (Value.slice ao n c).ownBlock) : w'.heap[b]? = some o := by
  refine (hg.block b (Array.getElem?_eq_some_iff.1 h).1 fun e => ?_).trans h
  cases ao with
  | none => simp [Value.ownBlock] at e
  | some a =>
    simp only [Value.ownBlock, Option.some.injEq] at e
    have := i a rfl
    omega
theorem cells3 {w : World} {b : Nat} {u v x : Value} {t : TypeId} (h : w.heap[b]? = some (.cells #[u, v, x] t (0, 0))) : w.cell? ⟨b, 0, none⟩ = some u ∧ w.cell? ⟨b, 1, none⟩ = some v ∧ w.cell? ⟨b, 2, none⟩ = some x := by
  simp [World.cell?, h]
theorem own_capmax {w : World} {base e size n c : Nat} {ao : Option Addr} {vs : List Value} (h : w.ownsRow base e size (.slice ao n c) n vs) : c ≤ 9223372036854775807 := by
  rcases h.2 with ⟨hv, _⟩ | ⟨g, cap, cur, hv, _, _, _, hm, _⟩
  · have : c = 0 := by injection hv
    omega
  · have : c = cap := by injection hv
    unfold maxLen at hm
    omega

def noInts : List Int := []
theorem noInts_len : noInts.length ≤ 0 := Nat.le_refl _
theorem specTalkValid_x (n t : Int) (a : Option Addr) (z : List Int) (c B : Nat) (w : World) (o : OwnI w B a c z) (l : z.length ≤ 1048576) :
    Calls Try.prog 17 #[.agg #[.int .i64 n, .int .i64 t, .slice a z.length c]] w fun e w' => e = .returned (.bool (talkB n t z)) ∧ Below w.heap.size w w' :=
  specTalkValid_any n t a z c w o.ints (by omega)
theorem implTalkValid_x (n t : Int) (a : Option Addr) (z : List Int) (c B : Nat) (w : World) (o : OwnI w B a c z) (l : z.length ≤ 1048576) :
    Calls Try.prog 16 #[.agg #[.int .i64 n, .int .i64 t, .slice a z.length c]] w fun e w' => e = .returned (.bool (talkB n t z)) ∧ Below w.heap.size w w' :=
  implTalkValid_any n t a z c w o.ints (by omega)
theorem specTalkAnswer_x (n t : Int) (a : Option Addr) (z : List Int) (c B : Nat) (k : Int) (w : World) (o : OwnI w B a c z) (l : z.length ≤ 1048576) :
    Calls Try.prog 29 #[.agg #[.int .i64 n, .int .i64 t, .slice a z.length c], .int .i64 k] w fun e w' => ∃ a1 c1, e = .returned (.tuple #[.agg #[.int .i64 (ansN n t z k), .int .i64 0, .slice a1 noInts.length c1], .bool (ansB n t z k)]) ∧ OwnI w' w.heap.size a1 c1 noInts ∧ Below w.heap.size w w' :=
  specTalkAnswer_any n t k a z c w o.ints (by omega)
theorem implTalkAnswer_x (n t : Int) (a : Option Addr) (z : List Int) (c B : Nat) (k : Int) (w : World) (o : OwnI w B a c z) (l : z.length ≤ 1048576) :
    Calls Try.prog 28 #[.agg #[.int .i64 n, .int .i64 t, .slice a z.length c], .int .i64 k] w fun e w' => ∃ a1 c1, e = .returned (.tuple #[.agg #[.int .i64 (ansN n t z k), .int .i64 0, .slice a1 noInts.length c1], .bool (ansB n t z k)]) ∧ OwnI w' w.heap.size a1 c1 noInts ∧ Below w.heap.size w w' :=
  (implTalkAnswer_any n t k a z c w o.ints (by omega)).mono fun e w' ⟨he, hb⟩ => ⟨none, 0, he, own_nil _ _, hb⟩
def SentX (w : World) (R : TkR) (e : Ending) (w' : World) : Prop := ∃ a1 c1 a2 c2, e = .returned (.tuple #[.agg #[.int .i64 R.k.n, .int .i64 R.k.t, .slice a1 R.k.b.length c1], .slice a2 R.p.length c2, .bool R.ok]) ∧ OwnI w' w.heap.size a1 c1 R.k.b ∧ OwnI w' w.heap.size a2 c2 R.p ∧ Apart a1 a2 ∧ Below w.heap.size w w'
theorem SentX.of {w : World} {R : TkR} {e : Ending} {w' : World} (h : Sent w.heap.size R e w' ∧ Below w.heap.size w w') : SentX w R e w' := by
  obtain ⟨⟨a1, c1, a2, c2, h1, h2, h3, h4⟩, hb⟩ := h
  exact ⟨a1, c1, a2, c2, h1, h2, h3, h4, hb⟩
theorem sendR_len (n t : Int) (z y : List Int) : (sendR n t z y).k.b.length ≤ 17 ∧ (sendR n t z y).p.length ≤ 20 := by
  unfold sendR
  split
  · rename_i h
    simp only [sendB, Bool.and_eq_true] at h
    have := bodyB_facts h.2.2
    exact ⟨this.2.1, by show (packetL n y).length ≤ 20; rw [packetL_length]; omega⟩
  · exact ⟨by simp [TkR.no, noTk], by simp [TkR.no]⟩
theorem lateR_len (n t : Int) (z : List Int) : (lateR n t z).k.b.length ≤ 17 ∧ (lateR n t z).p.length ≤ 20 := by
  unfold lateR
  split
  · rename_i h
    simp only [lateB, Bool.and_eq_true, decide_eq_true_eq] at h
    have := bodyB_facts ((talkB_facts h.1).2.2.2.2 h.2.1)
    exact ⟨this.2.1, by show (packetL n z).length ≤ 20; rw [packetL_length]; omega⟩
  · exact ⟨by simp [TkR.no, noTk], by simp [TkR.no]⟩
theorem specTalkSend_x (n t : Int) (a : Option Addr) (z : List Int) (c B : Nat) (b : Option Addr) (y : List Int) (d B2 : Nat) (w : World) (o : OwnI w B a c z) (l : z.length ≤ 1048576) (p : OwnI w B2 b d y) (m : y.length ≤ 1048576) :
    Calls Try.prog 41 #[.agg #[.int .i64 n, .int .i64 t, .slice a z.length c], .slice b y.length d] w (SentX w (sendR n t z y)) :=
  (specTalkSend_any n t a b z y c d w o.ints (by omega) p.ints (by omega)).mono fun _ _ h => .of h
theorem implTalkSend_x (n t : Int) (a : Option Addr) (z : List Int) (c B : Nat) (b : Option Addr) (y : List Int) (d B2 : Nat) (w : World) (o : OwnI w B a c z) (l : z.length ≤ 1048576) (p : OwnI w B2 b d y) (m : y.length ≤ 1048576) :
    Calls Try.prog 39 #[.agg #[.int .i64 n, .int .i64 t, .slice a z.length c], .slice b y.length d] w (SentX w (sendR n t z y)) :=
  (implTalkSend_any n t a b z y c d w o.ints (by omega) p.ints (by omega)).mono fun _ _ h => .of h
theorem specTalkLate_x (n t : Int) (a : Option Addr) (z : List Int) (c B : Nat) (w : World) (o : OwnI w B a c z) (l : z.length ≤ 1048576) :
    Calls Try.prog 38 #[.agg #[.int .i64 n, .int .i64 t, .slice a z.length c]] w (SentX w (lateR n t z)) :=
  (specTalkLate_any n t a z c w o.ints (by omega)).mono fun _ _ h => .of h
theorem implTalkLate_x (n t : Int) (a : Option Addr) (z : List Int) (c B : Nat) (w : World) (o : OwnI w B a c z) (l : z.length ≤ 1048576) :
    Calls Try.prog 37 #[.agg #[.int .i64 n, .int .i64 t, .slice a z.length c]] w (SentX w (lateR n t z)) :=
  (implTalkLate_any n t a z c w o.ints (by omega)).mono fun _ _ h => .of h
theorem hearR_len (x : Int) (z : List Int) : (hearR x z).l.length ≤ 20 := by
  have hl : (sumTakeL z).length ≤ 20 := by
    unfold sumTakeL
    split
    · rename_i h
      simp only [sumTakeB, Bool.and_eq_true, decide_eq_true_eq] at h
      rw [List.length_take]; omega
    · simp
  unfold hearR
  split
  · split
    · simp; omega
    · simp
  · simp
def HeardX (w : World) (R : HearR) (e : Ending) (w' : World) : Prop := ∃ a1 c1, e = .returned (.tuple #[.int .i64 R.x, .slice a1 R.l.length c1, .int .i64 R.n, .bool R.ok]) ∧ OwnI w' w.heap.size a1 c1 R.l ∧ Below w.heap.size w w'
theorem specTalkHear_x (x : Int) (a : Option Addr) (z : List Int) (c B : Nat) (w : World) (o : OwnI w B a c z) (l : z.length ≤ 1048576) :
    Calls Try.prog 21 #[.int .i64 x, .slice a z.length c] w (HeardX w (hearR x z)) :=
  (specTalkHear_any x a z c w o.ints (own_cap o) (by omega)).mono fun _ _ ⟨⟨a1, c1, h1, h2⟩, hb⟩ => ⟨a1, c1, h1, h2, hb⟩
theorem implTalkHear_x (x : Int) (a : Option Addr) (z : List Int) (c B : Nat) (w : World) (o : OwnI w B a c z) (l : z.length ≤ 1048576) :
    Calls Try.prog 23 #[.int .i64 x, .slice a z.length c] w (HeardX w (hearR x z)) :=
  (implTalkHear_any x a z c w o.ints (own_cap o) (by omega)).mono fun _ _ ⟨⟨a1, c1, h1, h2⟩, hb⟩ => ⟨a1, c1, h1, h2, hb⟩
end Go.Proofs.Ytjamcfnclnpdkaa
