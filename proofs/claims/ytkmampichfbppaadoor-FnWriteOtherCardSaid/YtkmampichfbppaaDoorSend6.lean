/- Senders: a byte is put: the reference's function; both in one form. -/
import Derived.Test.YtkmampichfbppaaDoorSend5
namespace Go.Proofs.YtkmampichfbppaaDoor
open Go.RowKit

theorem sendVB_fifo {r h l : Int} {xs : List Int} (e : sendVB r xs h l = true) : fifoB r xs = true := by
  simp only [sendVB, Bool.and_eq_true] at e
  exact e.1
set_option maxHeartbeats 2000000 in
theorem specSendPut_any (r : Int) (ao : Option Addr) (xs : List Int) (c : Nat) (h l : Int) (b : Int) (w : World) (hx : Ints w ao xs) (lx : xs.length ≤ 1048576) (hA : ao = none → xs.length = 0 ∧ c = 0) :
    Calls Tryd.prog 21 #[.agg #[.int .i64 r, .slice ao xs.length c, .int .i64 h, .int .i64 l], .int .i64 b] w (SPutP w (sputR r h l xs b)) := by
  have HA := Lib.hid hA
  clear hA
  have b0 : Below w.heap.size w ((w.alloc (.cells #[.int .i64 r, .slice ao xs.length c, .int .i64 h, .int .i64 l] 30)).alloc (.cells #[.int .i64 0, .slice none 0 0, .int .i64 0, .int .i64 0] 30)) := ((Below.refl _ _).alloc (Nat.le_refl _) _).alloc (by simp) _
  have B0 := Lib.hid b0
  have hx0 := hx.below b0
  clear b0
  cases hv : sendVB r xs h l
  · have HR := Lib.hid (sputR_no (r := r) (h := h) (l := l) (xs := xs) (b := b) (by simp [sputB, hv]))
    rw [HR.out]
    go_enter Tryd.func21, Tryd.ntmps21
    go_wp2_with fail
    refine (specSendValid_any r ao xs c h l _ hx0 (by omega)).mono ?_
    rintro e w1 ⟨rfl, b1⟩
    have H2 := (b1.block _ (by simp only [World.size_alloc]; omega)).trans (box_alloc (heap_new_at w (.cells #[.int .i64 r, .slice ao xs.length c, .int .i64 h, .int .i64 l] 30) _ rfl) (.cells #[.int .i64 0, .slice none 0 0, .int .i64 0, .int .i64 0] 30))
    have H4 := (b1.block _ (by simp only [World.size_alloc]; omega)).trans (heap_new_at (w.alloc (.cells #[.int .i64 r, .slice ao xs.length c, .int .i64 h, .int .i64 l] 30)) (.cells #[.int .i64 0, .slice none 0 0, .int .i64 0, .int .i64 0] 30) (w.heap.size + 1) (by simp))
    have BB := below_join B0.out b1
    have zz := b1.size
    simp only [World.size_alloc] at zz
    obtain ⟨d0, d1, d2, d3, f0, f1, f2, f3⟩ := four_cells H4
    clear H2 H4
    go_wp2
    refine bodyPost_ret (v := .tuple #[.agg #[.int .i64 0, .slice none 0 0, .int .i64 0, .int .i64 0], .bool false]) (by simp [results, Tryd.results21, go_sem, *]) rfl ?_
    refine ⟨none, 0, rfl, own_nil _ _, ?_⟩
    exact (((BB.setCell (by simp) _).setCell (by simp) _).setCell (by simp) _).setCell (by simp) _
  cases hb : inB b 0 255
  · have HR := Lib.hid (sputR_no (r := r) (h := h) (l := l) (xs := xs) (b := b) (by rw [inB_byte] at hb; simp [sputB, putB, hb]))
    rw [HR.out]
    go_enter Tryd.func21, Tryd.ntmps21
    go_wp2_with fail
    refine (specSendValid_any r ao xs c h l _ hx0 (by omega)).mono ?_
    rintro e w1 ⟨rfl, b1⟩
    go_wp2_with fail
    refine (l6In_any b 0 255 w1).mono ?_
    rintro e w2 ⟨rfl, rfl⟩
    have H2 := (b1.block _ (by simp only [World.size_alloc]; omega)).trans (box_alloc (heap_new_at w (.cells #[.int .i64 r, .slice ao xs.length c, .int .i64 h, .int .i64 l] 30) _ rfl) (.cells #[.int .i64 0, .slice none 0 0, .int .i64 0, .int .i64 0] 30))
    have H4 := (b1.block _ (by simp only [World.size_alloc]; omega)).trans (heap_new_at (w.alloc (.cells #[.int .i64 r, .slice ao xs.length c, .int .i64 h, .int .i64 l] 30)) (.cells #[.int .i64 0, .slice none 0 0, .int .i64 0, .int .i64 0] 30) (w.heap.size + 1) (by simp))
    have BB := below_join B0.out b1
    have zz := b1.size
    simp only [World.size_alloc] at zz
    obtain ⟨d0, d1, d2, d3, f0, f1, f2, f3⟩ := four_cells H4
    clear H2 H4
    go_wp2
    refine bodyPost_ret (v := .tuple #[.agg #[.int .i64 0, .slice none 0 0, .int .i64 0, .int .i64 0], .bool false]) (by simp [results, Tryd.results21, go_sem, *]) rfl ?_
    refine ⟨none, 0, rfl, own_nil _ _, ?_⟩
    exact (((BB.setCell (by simp) _).setCell (by simp) _).setCell (by simp) _).setCell (by simp) _
  have hf := sendVB_fifo hv
  have ff := fifoB_facts hf
  have hr1 := ff.1.1
  have hr16 := ff.1.2
  have hlr := ff.2.1
  clear ff
  by_cases hl : (xs.length : Int) = r
  · have HR := Lib.hid (sputR_no (r := r) (h := h) (l := l) (xs := xs) (b := b) (by simp [sputB, putB]; intros; omega))
    have hlb : ((xs.length : Int) == r) = true := by simpa using hl
    rw [HR.out]
    clear hl hf
    go_enter Tryd.func21, Tryd.ntmps21
    go_wp2_with fail
    refine (specSendValid_any r ao xs c h l _ hx0 (by omega)).mono ?_
    rintro e w1 ⟨rfl, b1⟩
    go_wp2_with fail
    refine (l6In_any b 0 255 w1).mono ?_
    rintro e w2 ⟨rfl, rfl⟩
    have H2 := (b1.block _ (by simp only [World.size_alloc]; omega)).trans (box_alloc (heap_new_at w (.cells #[.int .i64 r, .slice ao xs.length c, .int .i64 h, .int .i64 l] 30) _ rfl) (.cells #[.int .i64 0, .slice none 0 0, .int .i64 0, .int .i64 0] 30))
    have H4 := (b1.block _ (by simp only [World.size_alloc]; omega)).trans (heap_new_at (w.alloc (.cells #[.int .i64 r, .slice ao xs.length c, .int .i64 h, .int .i64 l] 30)) (.cells #[.int .i64 0, .slice none 0 0, .int .i64 0, .int .i64 0] 30) (w.heap.size + 1) (by simp))
    have BB := below_join B0.out b1
    have zz := b1.size
    simp only [World.size_alloc] at zz
    obtain ⟨c0, c1, c2, c3⟩ := cells4 H2
    obtain ⟨d0, d1, d2, d3, f0, f1, f2, f3⟩ := four_cells H4
    clear H2 H4
    go_wp2
    refine bodyPost_ret (v := .tuple #[.agg #[.int .i64 0, .slice none 0 0, .int .i64 0, .int .i64 0], .bool false]) (by simp [results, Tryd.results21, go_sem, *]) rfl ?_
    refine ⟨none, 0, rfl, own_nil _ _, ?_⟩
    exact (((BB.setCell (by simp) _).setCell (by simp) _).setCell (by simp) _).setCell (by simp) _
  · have HR := Lib.hid (sputR_yes (r := r) (h := h) (l := l) (xs := xs) (b := b) (by rw [inB_byte] at hb; simp [sputB, putB, hv, hf, hb]; omega))
    have hlb : ((xs.length : Int) == r) = false := by simpa using hl
    rw [HR.out]
    clear hl hf
    go_enter Tryd.func21, Tryd.ntmps21
    go_wp2_with fail
    refine (specSendValid_any r ao xs c h l _ hx0 (by omega)).mono ?_
    rintro e w1 ⟨rfl, b1⟩
    go_wp2_with fail
    refine (l6In_any b 0 255 w1).mono ?_
    rintro e w2 ⟨rfl, rfl⟩
    have H2 := (b1.block _ (by simp only [World.size_alloc]; omega)).trans (box_alloc (heap_new_at w (.cells #[.int .i64 r, .slice ao xs.length c, .int .i64 h, .int .i64 l] 30) _ rfl) (.cells #[.int .i64 0, .slice none 0 0, .int .i64 0, .int .i64 0] 30))
    have H4 := (b1.block _ (by simp only [World.size_alloc]; omega)).trans (heap_new_at (w.alloc (.cells #[.int .i64 r, .slice ao xs.length c, .int .i64 h, .int .i64 l] 30)) (.cells #[.int .i64 0, .slice none 0 0, .int .i64 0, .int .i64 0] 30) (w.heap.size + 1) (by simp))
    have BB := below_join B0.out b1
    have zz := b1.size
    simp only [World.size_alloc] at zz
    obtain ⟨c0, c1, c2, c3⟩ := cells4 H2
    have HH4 := Lib.hid H4
    clear H2 H4
    go_wp2_with fail
    have HS := Lib.hid (fun (v : World) (hv : Below (w.heap.size + 1) w1 v) => (⟨(hv.cell (p := ⟨w.heap.size, 0, none⟩) (Nat.lt_succ_self _)).trans c0, (hv.cell (p := ⟨w.heap.size, 1, none⟩) (Nat.lt_succ_self _)).trans c1, (hv.cell (p := ⟨w.heap.size, 2, none⟩) (Nat.lt_succ_self _)).trans c2, (hv.cell (p := ⟨w.heap.size, 3, none⟩) (Nat.lt_succ_self _)).trans c3, hv⟩ : v.cell? ⟨w.heap.size, 0, none⟩ = some (.int .i64 r) ∧ v.cell? ⟨w.heap.size, 1, none⟩ = some (.slice ao xs.length c) ∧ v.cell? ⟨w.heap.size, 2, none⟩ = some (.int .i64 h) ∧ v.cell? ⟨w.heap.size, 3, none⟩ = some (.int .i64 l) ∧ Below (w.heap.size + 1) w1 v))
    have hB1 : w.heap.size + 1 ≤ w1.heap.size := by omega
    go_region_held3 (fun v => v.cell? ⟨w.heap.size, 0, none⟩ = some (.int .i64 r) ∧ v.cell? ⟨w.heap.size, 1, none⟩ = some (.slice ao xs.length c) ∧ v.cell? ⟨w.heap.size, 2, none⟩ = some (.int .i64 h) ∧ v.cell? ⟨w.heap.size, 3, none⟩ = some (.int .i64 l) ∧ Below (w.heap.size + 1) w1 v)
      ((refine HS.out _ ?_; go_split_ands; repeat (first | assumption | exact Below.refl _ _ | refine Below.drew ?_ | refine below_allocB ?_ hB1 _ | refine Below.setCell ?_ (by simp) _)))
      (first
        | (refine step_append_row (by rfl) _ _ _ (by rfl) w1.heap.size 3 _ 1 8 Tryd.underlying28 int_info rfl (by decide) (some ⟨_, 0, none⟩) 0 0 [] (by rfl) ?ho ao xs.length c (xs.map (Value.int .i64)) (by rfl) ?hn (by simp) (ints_one _) HA.out (by simp only [maxLen]; omega) (by omega) ?hb ?_
           case ho => first | exact own_made_at _ #[] _ _ 0 _ _ rfl (by first | exact Nat.le_refl _ | (simp; done) | (simp; omega)) (by simp) rfl | exact World.ownsRow.alloc (own_made_at _ #[] _ _ 0 _ _ rfl (Nat.le_refl _) (by simp) rfl) _ | exact own_made_at _ #[] _ _ 0 _ _ (by simp) (by simp) (by simp) rfl
           case hn => (go_split_ands; exact ints_bel hx (BB.trans (Below.mono (by assumption) (Nat.le_succ _))))
           case hb => (go_split_ands; exact Below.size (by assumption))
           intro aA dA wA hoA hgA
           rw [Nat.zero_add, List.nil_append] at hoA
           rw [Nat.zero_add]
           have bA : Below (w.heap.size + 1) w1 wA := (by go_split_ands; exact below_growB (by assumption) hgA hB1 (fun k hk => by simp [Value.ownBlock] at hk; omega))
           have hA4 := box_grow (b := w.heap.size + 1) (by first | exact box_alloc HH4.out _ | exact box_alloc (box_alloc HH4.out _) _) hgA (fun k hk => by simp [Value.ownBlock] at hk; omega))
        | (refine step_append_row (by rfl) _ _ _ (by rfl) w1.heap.size 3 _ 1 8 Tryd.underlying28 int_info rfl (by decide) aA xs.length dA (xs.map (Value.int .i64)) (by rfl) ?ho (some ⟨_, 0, none⟩) 1 1 [.int .i64 b] (by rfl) ?hn (by rfl) ?h1 (by simp) (by simp only [maxLen]; omega) (by omega) ?hb ?_
           case ho => first | exact hoA | exact hoA.alloc _
           case hn => first | exact cells_new _ #[.int .i64 b] _ rfl | exact cells_grow (Cells.drew (cells_new _ #[.int .i64 b] _ (by simp))) hgA (by simp [Value.ownBlock]) | exact cells_grow (Cells.drew (Cells.keep (cells_new _ #[.int .i64 b] _ rfl) (Keeps.alloc _ _))) hgA (by simp [Value.ownBlock])
           case h1 => (simp [Value.oneCell'])
           case hb => (go_split_ands; exact Below.size (by assumption))
           intro aC dC wC hoC hgC
           have bC : Below (w.heap.size + 1) w1 wC := (by go_split_ands; exact below_growB (by assumption) hgC hB1 (fun k hk => by have := (hoA.lt k hk).1; omega))
           have hC4 := box_grow (b := w.heap.size + 1) (by first | exact hA4 | exact box_alloc hA4 _) hgC (fun k hk => by have := (hoA.lt k hk).1; omega)
           obtain ⟨e0, e1, e2, e3, k0, k1, k2, k3⟩ := four_cells hC4
           (have hzz := bC.size)))
    all_goals
      go_wp2
      refine bodyPost_ret (v := .tuple #[.agg #[.int .i64 r, .slice aC (xs ++ [b]).length dC, .int .i64 h, .int .i64 l], .bool true]) (by simp [results, Tryd.results21, go_sem, *]) rfl ?_
      have BC : Below w.heap.size w wC := BB.trans (bC.mono (Nat.le_succ _))
      refine ⟨aC, dC, rfl, ?_, ?_⟩
      · refine own_base (base := w1.heap.size) ?_ (by omega)
        refine own_set ?_ _ _ (by simp; omega)
        refine own_set ?_ _ _ (by simp; omega)
        refine own_set ?_ _ _ (by simp; omega)
        refine own_set ?_ _ _ (by simp; omega)
        exact OwnI.snoc hoC
      · exact (((BC.setCell (by simp) _).setCell (by simp) _).setCell (by simp) _).setCell (by simp) _

theorem sputR_len (r h l : Int) (z : List Int) (b : Int) : (sputR r h l z b).b.length ≤ 17 := by
  cases e : sputB r h l z b
  · rw [sputR_no e]; simp
  · rw [sputR_yes e]
    simp only [sputB, Bool.and_eq_true] at e
    have := putR_len r z b
    rw [putR_yes e.2] at this
    exact this
theorem specSendPut_x (r h l : Int) (a : Option Addr) (z : List Int) (c B : Nat) (b : Int) (w : World) (o : OwnI w B a c z) (lz : z.length ≤ 1048576) :
    Calls Tryd.prog 21 #[.agg #[.int .i64 r, .slice a z.length c, .int .i64 h, .int .i64 l], .int .i64 b] w (SPutP w (sputR r h l z b)) := specSendPut_any r a z c h l b w o.ints lz (own_nilcap o)
theorem implSendPut_x (r h l : Int) (a : Option Addr) (z : List Int) (c B : Nat) (b : Int) (w : World) (o : OwnI w B a c z) (lz : z.length ≤ 1048576) :
    Calls Tryd.prog 13 #[.agg #[.int .i64 r, .slice a z.length c, .int .i64 h, .int .i64 l], .int .i64 b] w (SPutP w (sputR r h l z b)) := implSendPut_any r a z c h l b w o.ints lz
end Go.Proofs.YtkmampichfbppaaDoor
