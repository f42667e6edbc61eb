/- Senders: a byte is put. -/
import Derived.Test.YtkmampichfbppaaDoorSend4
namespace Go.Proofs.YtkmampichfbppaaDoor
open Go.RowKit

structure SpR where
  r : Int
  b : List Int
  h : Int
  l : Int
  ok : Bool
def sputB (r h l : Int) (xs : List Int) (b : Int) : Bool := sendVB r xs h l && putB r xs b
def sputR (r h l : Int) (xs : List Int) (b : Int) : SpR := if sputB r h l xs b then ⟨r, xs ++ [b], h, l, true⟩ else ⟨0, [], 0, 0, false⟩
theorem sputR_no {r h l : Int} {xs : List Int} {b : Int} (e : sputB r h l xs b = false) : sputR r h l xs b = ⟨0, [], 0, 0, false⟩ := by simp [sputR, e]
theorem sputR_yes {r h l : Int} {xs : List Int} {b : Int} (e : sputB r h l xs b = true) : sputR r h l xs b = ⟨r, xs ++ [b], h, l, true⟩ := by simp [sputR, e]
def SPutP (w : World) (R : SpR) (e : Ending) (w' : World) : Prop := ∃ a1 c1, e = .returned (.tuple #[.agg #[.int .i64 R.r, .slice a1 R.b.length c1, .int .i64 R.h, .int .i64 R.l], .bool R.ok]) ∧ OwnI w' w.heap.size a1 c1 R.b ∧ Below w.heap.size w w'
theorem four_set1 {w : World} {b : Nat} {u v x y : Value} {t : TypeId} (h : w.heap[b]? = some (.cells #[u, v, x, y] t (0, 0))) (z : Value) : (w.setCell ⟨b, 1, none⟩ z).heap[b]? = some (.cells #[u, z, x, y] t (0, 0)) := by
  simp [World.setCell, Array.getElem?_modify, h]

set_option maxHeartbeats 1000000 in
theorem implSendPut_any (r : Int) (ao : Option Addr) (xs : List Int) (c : Nat) (h l : Int) (b : Int) (w : World) (hx : Ints w ao xs) (lx : xs.length ≤ 1048576) :
    Calls Tryd.prog 13 #[.agg #[.int .i64 r, .slice ao xs.length c, .int .i64 h, .int .i64 l], .int .i64 b] w (SPutP w (sputR r h l xs b)) := by
  have b0 : Below w.heap.size w ((w.alloc (.cells #[.int .i64 r, .slice ao xs.length c, .int .i64 h, .int .i64 l] 30)).alloc (.cells #[.int .i64 0, .slice none 0 0, .int .i64 0, .int .i64 0] 30)) := ((Below.refl _ _).alloc (Nat.le_refl _) _).alloc (by simp) _
  have B0 := Lib.hid b0
  have hx0 := hx.below b0
  clear b0
  cases hv : sendVB r xs h l
  · have HR := Lib.hid (sputR_no (r := r) (h := h) (l := l) (xs := xs) (b := b) (by simp [sputB, hv]))
    rw [HR.out]
    go_enter Tryd.func13, Tryd.ntmps13
    go_wp2_with fail
    refine (implSendValid_any r ao xs c h l _ hx0 (by omega)).mono ?_
    rintro e w1 ⟨rfl, b1⟩
    have H2 := (b1.block _ (by simp only [World.size_alloc]; omega)).trans (box_alloc (heap_new_at w (.cells #[.int .i64 r, .slice ao xs.length c, .int .i64 h, .int .i64 l] 30) _ rfl) (.cells #[.int .i64 0, .slice none 0 0, .int .i64 0, .int .i64 0] 30))
    have H4 := (b1.block _ (by simp only [World.size_alloc]; omega)).trans (heap_new_at (w.alloc (.cells #[.int .i64 r, .slice ao xs.length c, .int .i64 h, .int .i64 l] 30)) (.cells #[.int .i64 0, .slice none 0 0, .int .i64 0, .int .i64 0] 30) (w.heap.size + 1) (by simp))
    have BB := below_join B0.out b1
    have zz := b1.size
    simp only [World.size_alloc] at zz
    obtain ⟨d0, d1, d2, d3, f0, f1, f2, f3⟩ := four_cells H4
    clear H2 H4
    go_wp2
    refine bodyPost_ret (v := .tuple #[.agg #[.int .i64 0, .slice none 0 0, .int .i64 0, .int .i64 0], .bool false]) (by simp [results, Tryd.results13, go_sem, *]) rfl ?_
    refine ⟨none, 0, rfl, own_nil _ _, ?_⟩
    exact (((BB.setCell (by simp) _).setCell (by simp) _).setCell (by simp) _).setCell (by simp) _
  cases hp : putB r xs b
  · have HR := Lib.hid (sputR_no (r := r) (h := h) (l := l) (xs := xs) (b := b) (by simp [sputB, hp]))
    have HP := Lib.hid (putR_no hp)
    rw [HR.out]
    go_enter Tryd.func13, Tryd.ntmps13
    go_wp2_with fail
    refine (implSendValid_any r ao xs c h l _ hx0 (by omega)).mono ?_
    rintro e w1 ⟨rfl, b1⟩
    have H2 := (b1.block _ (by simp only [World.size_alloc]; omega)).trans (box_alloc (heap_new_at w (.cells #[.int .i64 r, .slice ao xs.length c, .int .i64 h, .int .i64 l] 30) _ rfl) (.cells #[.int .i64 0, .slice none 0 0, .int .i64 0, .int .i64 0] 30))
    have H4 := (b1.block _ (by simp only [World.size_alloc]; omega)).trans (heap_new_at (w.alloc (.cells #[.int .i64 r, .slice ao xs.length c, .int .i64 h, .int .i64 l] 30)) (.cells #[.int .i64 0, .slice none 0 0, .int .i64 0, .int .i64 0] 30) (w.heap.size + 1) (by simp))
    have BB := below_join B0.out b1
    have zz := b1.size
    simp only [World.size_alloc] at zz
    obtain ⟨c0, c1, c2, c3⟩ := cells4 H2
    have hx1 := hx0.below b1
    clear H2 b1
    go_wp2_with fail
    refine (waiting_any r ao xs.length c h l w1).mono ?_
    rintro e w2 ⟨rfl, b2⟩
    have hF := implFifoPut_any r ao xs c b w2 (hx1.below b2) lx
    rw [HP.out] at hF
    go_wp2_with fail
    refine hF.mono ?_
    rintro e w3 ⟨a3, c3', rfl, o3, b3⟩
    have H43 := (b3.block _ (by have := b2.size; omega)).trans ((b2.block _ (by omega)).trans H4)
    obtain ⟨d0, d1, d2, d3, f0, f1, f2, f3⟩ := four_cells H43
    have hlt := box_lt H43
    have B3 := (BB.trans (b2.mono BB.size)).trans (b3.mono (Nat.le_trans BB.size b2.size))
    clear H4 H43 c0 c1 c2 c3
    go_wp2
    refine bodyPost_ret (v := .tuple #[.agg #[.int .i64 0, .slice none 0 0, .int .i64 0, .int .i64 0], .bool false]) (by simp [results, Tryd.results13, go_sem, *]) rfl ?_
    refine ⟨none, 0, rfl, own_nil _ _, ?_⟩
    repeat' (first | exact Below.refl _ _ | exact Nat.le_refl _ | assumption | refine Below.drew ?_ | refine below_drewN ?_ _ | (refine Below.alloc ?_ (by first | exact Nat.le_refl _ | omega | (simp; done) | (simp; omega)) _) | (refine Below.setCell ?_ (by first | exact Nat.le_refl _ | omega | (simp; done) | (simp; omega)) _))
  · have HR := Lib.hid (sputR_yes (r := r) (h := h) (l := l) (xs := xs) (b := b) (by simp [sputB, hv, hp]))
    have HP := Lib.hid (putR_yes hp)
    rw [HR.out]
    go_enter Tryd.func13, Tryd.ntmps13
    go_wp2_with fail
    refine (implSendValid_any r ao xs c h l _ hx0 (by omega)).mono ?_
    rintro e w1 ⟨rfl, b1⟩
    have H2 := (b1.block _ (by simp only [World.size_alloc]; omega)).trans (box_alloc (heap_new_at w (.cells #[.int .i64 r, .slice ao xs.length c, .int .i64 h, .int .i64 l] 30) _ rfl) (.cells #[.int .i64 0, .slice none 0 0, .int .i64 0, .int .i64 0] 30))
    have H4 := (b1.block _ (by simp only [World.size_alloc]; omega)).trans (heap_new_at (w.alloc (.cells #[.int .i64 r, .slice ao xs.length c, .int .i64 h, .int .i64 l] 30)) (.cells #[.int .i64 0, .slice none 0 0, .int .i64 0, .int .i64 0] 30) (w.heap.size + 1) (by simp))
    have BB := below_join B0.out b1
    have zz := b1.size
    simp only [World.size_alloc] at zz
    obtain ⟨c0, c1, c2, c3⟩ := cells4 H2
    have hx1 := hx0.below b1
    have HH2 := Lib.hid H2
    have HH4 := Lib.hid H4
    clear H2 b1 H4
    go_wp2_with fail
    refine (waiting_any r ao xs.length c h l w1).mono ?_
    rintro e w2 ⟨rfl, b2⟩
    have hF := implFifoPut_any r ao xs c b w2 (hx1.below b2) lx
    rw [HP.out] at hF
    go_wp2_with fail
    refine hF.mono ?_
    rintro e w3 ⟨a3, c3', rfl, o3, b3⟩
    have z2 := b2.size
    have z3 := b3.size
    have H43 := (b3.block _ (by omega)).trans ((b2.block _ (by omega)).trans HH4.out)
    have H23 := (b3.block _ (by omega)).trans ((b2.block _ (by omega)).trans HH2.out)
    have hlt4 := box_lt H43
    have hlt2 := box_lt H23
    have o3' : OwnI w3 w2.heap.size a3 c3' (xs ++ [b]) := o3
    have B3 := (BB.trans (b2.mono BB.size)).trans (b3.mono (Nat.le_trans BB.size b2.size))
    clear c0 c1 c2 c3 o3
    obtain ⟨d0, d1, d2, d3, f0, f1, f2, f3⟩ := four_cells H43
    obtain ⟨c0, c1, c2, c3, g0, g1, g2, g3⟩ := four_cells H23
    go_wp2
    refine bodyPost_ret (v := .tuple #[.agg #[.int .i64 r, .slice a3 (xs ++ [b]).length c3', .int .i64 h, .int .i64 l], .bool true]) (by simp [results, Tryd.results13, go_sem, *]) rfl ?_
    refine ⟨a3, c3', rfl, ?_, ?_⟩
    · refine OwnI.base (base := w2.heap.size) (World.ownsRow.alloc ?_ _) (by omega)
      refine own_set ?_ _ _ (by simp; omega)
      refine own_set ?_ _ _ (by simp; omega)
      refine own_set ?_ _ _ (by simp; omega)
      refine own_set ?_ _ _ (by simp; omega)
      refine own_set ?_ _ _ (by simp; omega)
      exact o3'
    · exact (((((B3.setCell (by simp) _).setCell (by simp) _).setCell (by simp) _).setCell (by simp) _).setCell (by simp) _).alloc (by simp; omega) _
end Go.Proofs.YtkmampichfbppaaDoor
