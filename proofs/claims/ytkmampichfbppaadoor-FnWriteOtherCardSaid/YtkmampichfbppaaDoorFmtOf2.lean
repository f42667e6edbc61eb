/- The format of a control byte, of the program. -/
import Derived.Test.YtkmampichfbppaaDoorFmtOf
namespace Go.Proofs.YtkmampichfbppaaDoor
open Go.RowKit

set_option maxHeartbeats 4000000 in
theorem implFormatOf_any (b : Int) (a : Addr) (w : World) (hE : Sent w a) :
    Calls Tryd.prog 18 #[.int .i64 b] w fun e w' => e = .returned (.tuple #[.agg #[.int .i64 (fmtR b).b, .int .i64 (fmtR b).p, .int .i64 (fmtR b).s], .bool (fmtR b).ok]) ∧ Below w.heap.size w w' := by
  have b0 : Below w.heap.size w (w.alloc (.cells #[.int .i64 0, .int .i64 0, .int .i64 0] 24)) := (Below.refl _ _).alloc (Nat.le_refl _) _
  have hE0 := hE.below b0
  cases h : fmtOk b
  · rw [fmtR_no h]
    go_enter Tryd.func18, Tryd.ntmps18
    go_wp2_with fail
    refine (formatFrom_no b a _ hE0 h).mono ?_
    rintro e w1 ⟨rfl, b1⟩
    have hE1 := hE0.below b1
    unfold Sent at hE1
    have BB := below_join b0 b1
    have z1 := BB.size
    have hlt := hE.lt
    have hlt1 : 0 < w1.heap.size := by omega
    have zz := b1.size
    simp only [World.size_alloc] at zz
    have hlt2 : w.heap.size < w1.heap.size := by omega
    have kc1 : w1.cell? ⟨w.heap.size, 0, none⟩ = some (.int .i64 0) := (Keeps.of_below b1) _ _ _ (by simp [go_sem])
    have kf1 : w1.frozen? ⟨w.heap.size, 0, none⟩ = false := (Below.hot b1 (by simp [go_sem])).trans (by simp [go_sem])
    have kc2 : w1.cell? ⟨w.heap.size, 1, none⟩ = some (.int .i64 0) := (Keeps.of_below b1) _ _ _ (by simp [go_sem])
    have kf2 : w1.frozen? ⟨w.heap.size, 1, none⟩ = false := (Below.hot b1 (by simp [go_sem])).trans (by simp [go_sem])
    have kc3 : w1.cell? ⟨w.heap.size, 2, none⟩ = some (.int .i64 0) := (Keeps.of_below b1) _ _ _ (by simp [go_sem])
    have kf3 : w1.frozen? ⟨w.heap.size, 2, none⟩ = false := (Below.hot b1 (by simp [go_sem])).trans (by simp [go_sem])
    go_wp2_with fail
    refine (is_same a _).mono ?_
    rintro e w2 ⟨rfl, rfl⟩
    go_wp2
    refine bodyPost_ret (v := .tuple #[.agg #[.int .i64 0, .int .i64 0, .int .i64 0], .bool false]) (by simp [results, Tryd.results18, go_sem, *]) rfl ?_
    refine ⟨rfl, ?_⟩
    repeat (first | with_reducible exact BB | with_reducible refine Below.drew ?_ | with_reducible refine Below.alloc ?_ (by first | exact Nat.le_refl _ | omega | (simp; done) | (simp; omega)) _ | with_reducible refine Below.setCell ?_ (by first | exact Nat.le_refl _ | omega | (simp; done) | (simp; omega)) _)
  · rw [fmtR_yes h]
    go_enter Tryd.func18, Tryd.ntmps18
    go_wp2_with fail
    refine (formatFrom_yes b _ h).mono ?_
    rintro e w1 ⟨rfl, b1⟩
    have hE1 := hE0.below b1
    unfold Sent at hE1
    have BB := below_join b0 b1
    have z1 := BB.size
    have hlt := hE.lt
    have hlt1 : 0 < w1.heap.size := by omega
    have zz := b1.size
    simp only [World.size_alloc] at zz
    have hlt2 : w.heap.size < w1.heap.size := by omega
    have kc4 : w1.cell? ⟨w.heap.size, 0, none⟩ = some (.int .i64 0) := (Keeps.of_below b1) _ _ _ (by simp [go_sem])
    have kf4 : w1.frozen? ⟨w.heap.size, 0, none⟩ = false := (Below.hot b1 (by simp [go_sem])).trans (by simp [go_sem])
    have kc5 : w1.cell? ⟨w.heap.size, 1, none⟩ = some (.int .i64 0) := (Keeps.of_below b1) _ _ _ (by simp [go_sem])
    have kf5 : w1.frozen? ⟨w.heap.size, 1, none⟩ = false := (Below.hot b1 (by simp [go_sem])).trans (by simp [go_sem])
    have kc6 : w1.cell? ⟨w.heap.size, 2, none⟩ = some (.int .i64 0) := (Keeps.of_below b1) _ _ _ (by simp [go_sem])
    have kf6 : w1.frozen? ⟨w.heap.size, 2, none⟩ = false := (Below.hot b1 (by simp [go_sem])).trans (by simp [go_sem])
    go_wp2_with fail
    refine (is_nil a _).mono ?_
    rintro e w2 ⟨rfl, rfl⟩
    go_wp2
    refine bodyPost_ret (v := .tuple #[.agg #[.int .i64 (5 + b % 4), .int .i64 (fmtP b), .int .i64 (1 + b / 4 % 2)], .bool true]) (by simp [results, Tryd.results18, go_sem, *]) rfl ?_
    refine ⟨rfl, ?_⟩
    repeat (first | with_reducible exact BB | with_reducible refine Below.drew ?_ | with_reducible refine Below.alloc ?_ (by first | exact Nat.le_refl _ | omega | (simp; done) | (simp; omega)) _ | with_reducible refine Below.setCell ?_ (by first | exact Nat.le_refl _ | omega | (simp; done) | (simp; omega)) _)
end Go.Proofs.YtkmampichfbppaaDoor
