/- Queues: a byte is put. -/
import Derived.Test.YtkmampichfbppaaDoorFifo
namespace Go.Proofs.YtkmampichfbppaaDoor
open Go.RowKit

def putB (room : Int) (xs : List Int) (b : Int) : Bool := fifoB room xs && (byteB b && decide ((xs.length : Int) < room))
/-- A queue, and whether it went. -/
structure FfR where
  r : Int
  b : List Int
  ok : Bool
def putR (room : Int) (xs : List Int) (b : Int) : FfR := if putB room xs b then ⟨room, xs ++ [b], true⟩ else ⟨0, [], false⟩
theorem putR_no {room : Int} {xs : List Int} {b : Int} (h : putB room xs b = false) : putR room xs b = ⟨0, [], false⟩ := by simp [putR, h]
theorem putR_yes {room : Int} {xs : List Int} {b : Int} (h : putB room xs b = true) : putR room xs b = ⟨room, xs ++ [b], true⟩ := by simp [putR, h]
def PutP (w : World) (R : FfR) (e : Ending) (w' : World) : Prop := ∃ a1 c1, e = .returned (.tuple #[.agg #[.int .i64 R.r, .slice a1 R.b.length c1], .bool R.ok]) ∧ OwnI w' w.heap.size a1 c1 R.b ∧ Below w.heap.size w w'

set_option maxHeartbeats 400000 in
theorem implFifoPut_any (room : Int) (ao : Option Addr) (xs : List Int) (c : Nat) (b : Int) (w : World) (hx : Ints w ao xs) (lx : xs.length ≤ 1048576) :
    Calls Tryd.prog 29 #[.agg #[.int .i64 room, .slice ao xs.length c], .int .i64 b] w (PutP w (putR room xs b)) := by
  have b0 : Below w.heap.size w ((w.alloc (.cells #[.int .i64 room, .slice ao xs.length c] 62)).alloc (.cells #[.int .i64 0, .slice none 0 0] 62)) := ((Below.refl _ _).alloc (Nat.le_refl _) _).alloc (by simp) _
  have B0 := Lib.hid b0
  have hx0 := hx.below b0
  clear b0
  cases hv : fifoB room xs
  · have HR := Lib.hid (putR_no (room := room) (xs := xs) (b := b) (by simp [putB, hv]))
    rw [HR.out]
    go_enter Tryd.func29, Tryd.ntmps29
    go_wp2_with fail
    refine (implFifoValid_any room ao xs c _ hx0 (by omega)).mono ?_
    rintro e w1 ⟨rfl, b1⟩
    have H2 := (b1.block _ (by simp only [World.size_alloc]; omega)).trans (box_alloc (heap_new_at w (.cells #[.int .i64 room, .slice ao xs.length c] 62) _ rfl) (.cells #[.int .i64 0, .slice none 0 0] 62))
    have H4 := (b1.block _ (by simp only [World.size_alloc]; omega)).trans (heap_new_at (w.alloc (.cells #[.int .i64 room, .slice ao xs.length c] 62)) (.cells #[.int .i64 0, .slice none 0 0] 62) (w.heap.size + 1) (by simp))
    have BB := below_join B0.out b1
    have zz := b1.size
    simp only [World.size_alloc] at zz
    obtain ⟨d0, d1, f0, f1⟩ := two_cells H4
    clear H2 H4
    go_wp2
    refine bodyPost_ret (v := .tuple #[.agg #[.int .i64 0, .slice none 0 0], .bool false]) (by simp [results, Tryd.results29, go_sem, *]) rfl ?_
    refine ⟨none, 0, rfl, own_nil _ _, ?_⟩
    repeat' (first | exact Below.refl _ _ | exact Nat.le_refl _ | assumption | refine Below.drew ?_ | refine below_drewN ?_ _ | (refine Below.alloc ?_ (by first | exact Nat.le_refl _ | omega | (simp; done) | (simp; omega)) _) | (refine Below.setCell ?_ (by first | exact Nat.le_refl _ | omega | (simp; done) | (simp; omega)) _))
  cases hb : byteB b
  · have HR := Lib.hid (putR_no (room := room) (xs := xs) (b := b) (by simp [putB, hb]))
    rw [HR.out]
    go_enter Tryd.func29, Tryd.ntmps29
    go_wp2_with fail
    refine (implFifoValid_any room ao xs c _ hx0 (by omega)).mono ?_
    rintro e w1 ⟨rfl, b1⟩
    go_wp2_with fail
    refine (isByte_any b w1).mono ?_
    rintro e w2 ⟨rfl, rfl⟩
    have H2 := (b1.block _ (by simp only [World.size_alloc]; omega)).trans (box_alloc (heap_new_at w (.cells #[.int .i64 room, .slice ao xs.length c] 62) _ rfl) (.cells #[.int .i64 0, .slice none 0 0] 62))
    have H4 := (b1.block _ (by simp only [World.size_alloc]; omega)).trans (heap_new_at (w.alloc (.cells #[.int .i64 room, .slice ao xs.length c] 62)) (.cells #[.int .i64 0, .slice none 0 0] 62) (w.heap.size + 1) (by simp))
    have BB := below_join B0.out b1
    have zz := b1.size
    simp only [World.size_alloc] at zz
    obtain ⟨d0, d1, f0, f1⟩ := two_cells H4
    clear H2 H4
    go_wp2
    refine bodyPost_ret (v := .tuple #[.agg #[.int .i64 0, .slice none 0 0], .bool false]) (by simp [results, Tryd.results29, go_sem, *]) rfl ?_
    refine ⟨none, 0, rfl, own_nil _ _, ?_⟩
    repeat' (first | exact Below.refl _ _ | exact Nat.le_refl _ | assumption | refine Below.drew ?_ | refine below_drewN ?_ _ | (refine Below.alloc ?_ (by first | exact Nat.le_refl _ | omega | (simp; done) | (simp; omega)) _) | (refine Below.setCell ?_ (by first | exact Nat.le_refl _ | omega | (simp; done) | (simp; omega)) _))
  have ff := fifoB_facts hv
  obtain ⟨R, rfl⟩ : ∃ R : Nat, room = (R : Int) := Int.eq_ofNat_of_zero_le (by omega)
  have hr16 : R ≤ 16 := by omega
  have hr1 : 1 ≤ R := by omega
  have hlr : xs.length ≤ R := by omega
  clear ff
  by_cases hl : xs.length < R
  · have HR := Lib.hid (putR_yes (room := (R : Int)) (xs := xs) (b := b) (by simp [putB, hv, hb]; omega))
    rw [HR.out]
    go_enter Tryd.func29, Tryd.ntmps29
    go_wp2_with fail
    refine (implFifoValid_any (R : Int) ao xs c _ hx0 (by omega)).mono ?_
    rintro e w1 ⟨rfl, b1⟩
    go_wp2_with fail
    refine (isByte_any b w1).mono ?_
    rintro e w2 ⟨rfl, rfl⟩
    have H2 := (b1.block _ (by simp only [World.size_alloc]; omega)).trans (box_alloc (heap_new_at w (.cells #[.int .i64 (R : Int), .slice ao xs.length c] 62) _ rfl) (.cells #[.int .i64 0, .slice none 0 0] 62))
    have H4 := (b1.block _ (by simp only [World.size_alloc]; omega)).trans (heap_new_at (w.alloc (.cells #[.int .i64 (R : Int), .slice ao xs.length c] 62)) (.cells #[.int .i64 0, .slice none 0 0] 62) (w.heap.size + 1) (by simp))
    have BB := below_join B0.out b1
    have zz := b1.size
    simp only [World.size_alloc] at zz
    obtain ⟨c0, c1⟩ := cells2 H2
    have HH4 := Lib.hid H4
    clear H2 H4
    go_wp2_with fail
    refine (ringOf_any R ao xs c w1 (hx0.below b1) hr16 hlr).mono ?_
    rintro e w2 ⟨g, rfl, hg, R2, b2⟩
    have H42 := Lib.hid ((b2.block _ (by omega)).trans HH4.out)
    have B2 := BB.trans (b2.mono BB.size)
    clear c0 c1 b1 b2 BB
    go_wp2_with fail
    refine (put_yes g R xs b w2 R2 hr16 hl).mono ?_
    rintro e w3 ⟨rfl, R3, g3⟩
    have H43 := Lib.hid (box_only' H42.out g3 (by omega))
    have B3 : Below w.heap.size w w3 := below_only B2 g3 (by omega)
    have z3 := g3.size
    clear H42 B2 R2 g3 HH4
    go_wp2_with fail
    refine (ringFifo_any g R (xs ++ [b]) w3 R3 hr16 hr1 (by simp; omega)).mono ?_
    rintro e w4 ⟨a4, c4, rfl, o4, b4⟩
    obtain ⟨d0, d1, f0, f1⟩ := two_cells ((b4.block _ (box_lt H43.out)).trans H43.out)
    have hlt := box_lt H43.out
    have B4 := B3.trans (b4.mono B3.size)
    go_wp2
    refine bodyPost_ret (v := .tuple #[.agg #[.int .i64 (R : Int), .slice a4 (xs ++ [b]).length c4], .bool true]) (by simp [results, Tryd.results29, go_sem, *]) rfl ?_
    refine ⟨a4, c4, rfl, own_base (own_set (own_set o4 _ _ hlt) _ _ hlt) B3.size, ?_⟩
    repeat' (first | exact Below.refl _ _ | exact Nat.le_refl _ | assumption | refine Below.drew ?_ | refine below_drewN ?_ _ | (refine Below.alloc ?_ (by first | exact Nat.le_refl _ | omega | (simp; done) | (simp; omega)) _) | (refine Below.setCell ?_ (by first | exact Nat.le_refl _ | omega | (simp; done) | (simp; omega)) _))
  · have HR := Lib.hid (putR_no (room := (R : Int)) (xs := xs) (b := b) (by simp [putB]; intros; omega))
    rw [HR.out]
    go_enter Tryd.func29, Tryd.ntmps29
    go_wp2_with fail
    refine (implFifoValid_any (R : Int) ao xs c _ hx0 (by omega)).mono ?_
    rintro e w1 ⟨rfl, b1⟩
    go_wp2_with fail
    refine (isByte_any b w1).mono ?_
    rintro e w2 ⟨rfl, rfl⟩
    have H2 := (b1.block _ (by simp only [World.size_alloc]; omega)).trans (box_alloc (heap_new_at w (.cells #[.int .i64 (R : Int), .slice ao xs.length c] 62) _ rfl) (.cells #[.int .i64 0, .slice none 0 0] 62))
    have H4 := (b1.block _ (by simp only [World.size_alloc]; omega)).trans (heap_new_at (w.alloc (.cells #[.int .i64 (R : Int), .slice ao xs.length c] 62)) (.cells #[.int .i64 0, .slice none 0 0] 62) (w.heap.size + 1) (by simp))
    have BB := below_join B0.out b1
    have zz := b1.size
    simp only [World.size_alloc] at zz
    obtain ⟨c0, c1⟩ := cells2 H2
    have HH4 := Lib.hid H4
    clear H2 H4
    go_wp2_with fail
    refine (ringOf_any R ao xs c w1 (hx0.below b1) hr16 hlr).mono ?_
    rintro e w2 ⟨g, rfl, hg, R2, b2⟩
    have H42 := Lib.hid ((b2.block _ (by omega)).trans HH4.out)
    have B2 := BB.trans (b2.mono BB.size)
    clear c0 c1 b1 b2 BB
    go_wp2_with fail
    refine (put_no g R xs b w2 R2 (by omega)).mono ?_
    rintro e w3 ⟨rfl, b3⟩
    obtain ⟨d0, d1, f0, f1⟩ := two_cells ((b3.block _ (box_lt H42.out)).trans H42.out)
    have B3 := B2.trans (b3.mono B2.size)
    go_wp2
    refine bodyPost_ret (v := .tuple #[.agg #[.int .i64 0, .slice none 0 0], .bool false]) (by simp [results, Tryd.results29, go_sem, *]) rfl ?_
    refine ⟨none, 0, rfl, own_nil _ _, ?_⟩
    repeat' (first | exact Below.refl _ _ | exact Nat.le_refl _ | assumption | refine Below.drew ?_ | refine below_drewN ?_ _ | (refine Below.alloc ?_ (by first | exact Nat.le_refl _ | omega | (simp; done) | (simp; omega)) _) | (refine Below.setCell ?_ (by first | exact Nat.le_refl _ | omega | (simp; done) | (simp; omega)) _))

end Go.Proofs.YtkmampichfbppaaDoor
