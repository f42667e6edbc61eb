/- Queues: the contracts of putting in one form: arguments that are the call's own rows, results that are its own rows. -/
import Derived.Test.YtkmampichfbppaaDoorFifo2
import Derived.Test.YtkmampichfbppaaDoorFifo3
namespace Go.Proofs.YtkmampichfbppaaDoor
open Go.RowKit

theorem own_nilcap {w : World} {base e size n c : Nat} {ao : Option Addr} {vs : List Value} (h : w.ownsRow base e size (.slice ao n c) n vs) : ao = none → n = 0 ∧ c = 0 := by
  rintro rfl
  rcases h.2 with ⟨hv, h0⟩ | ⟨g, cap, cur, hv, _⟩
  · injection hv with _ h1 h2
    exact ⟨h1, h2⟩
  · injection hv with hv; cases hv
theorem putR_len (r : Int) (z : List Int) (b : Int) : (putR r z b).b.length ≤ 17 := by
  cases h : putB r z b
  · rw [putR_no h]; simp
  · rw [putR_yes h]
    simp only [putB, Bool.and_eq_true, decide_eq_true_eq] at h
    have := fifoB_facts h.1
    simp; omega
theorem implFifoPut_x (r : Int) (a : Option Addr) (z : List Int) (c B : Nat) (b : Int) (w : World) (o : OwnI w B a c z) (l : z.length ≤ 1048576) :
    Calls Tryd.prog 29 #[.agg #[.int .i64 r, .slice a z.length c], .int .i64 b] w (PutP w (putR r z b)) := implFifoPut_any r a z c b w o.ints l
end Go.Proofs.YtkmampichfbppaaDoor
