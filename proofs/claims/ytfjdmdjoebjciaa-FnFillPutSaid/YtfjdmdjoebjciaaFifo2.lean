/- Queues: a byte is put. -/
import Derived.Test.YtfjdmdjoebjciaaFifo
namespace Go.Proofs.Ytfjdmdjoebjciaa
open Go.RowKit

def putB (room : Int) (xs : List Int) (b : Int) : Bool := fifoB room xs && (byteB b && decide ((xs.length : Int) < room))
/-- A queue, and whether it went. -/
structure FfR where
  r : Int
  b : List Int
  ok : Bool
def putR (room : Int) (xs : List Int) (b : Int) : FfR := if putB room xs b then ⟨room, xs ++ [b], true⟩ else ⟨0, [], false⟩
theorem putR_no {room : Int} {xs : List Int} {b : Int} (h : putB room xs b = false) : putR room xs b = ⟨0, [], false⟩ := by simp [putR, h]
theorem putR_yes {room : Int} {xs : List Int} {b : Int} (h : putB room xs b = true) : putR room xs b = ⟨room, xs ++ [b], true⟩ := by simp [putR, h]
def PutP (w : World) (R : FfR) (e : Ending) (w' : World) : Prop := ∃ a1 c1, e = .returned (.tuple #[.agg #[.int .i64 R.r, .slice a1 R.b.length c1], .bool R.ok]) ∧ OwnI w' w.heap.size a1 c1 R.b ∧ Below w.heap.size w w'

set_option maxHeartbeats 400000 in
theorem implFifoPut_any (room : Int) (ao : Option Addr) (xs : List Int) (c : Nat) (b : Int) (w : World) (hx : Ints w ao xs) (lx : xs.length ≤ 1048576) :
    Calls Try.prog 14 #[.agg #[.int .i64 room, .slice ao xs.length c], .int .i64 b] w (PutP w (putR room xs b)) := by
  have b0 : Below w.heap.size w ((w.alloc (.cells #[.int .i64 room, .slice ao xs.length c] 25)).alloc (.cells #[.int .i64 0, .slice none 0 0] 25)) := ((Below.refl _ _).alloc (Nat.le_refl _) _).alloc (by simp) _
  have B0 := Lib.hid b0
  have hx0 := hx.below b0
  clear b0
  cases hv : fifoB room xs
  · have HR := Lib.hid (putR_no (room := room) (xs := xs) (b := b) (by simp [putB, hv]))
    rw [HR.out]
    go_enter Try.func14, Try.ntmps14
    go_wp2_with fail
    refine (implFifoValid_any room ao xs c _ hx0 (by omega)).mono ?_
    rintro e w1 ⟨rfl, b1⟩
    have H2 := (b1.block _ (by simp only [World.size_alloc]; omega)).trans (box_alloc (heap_new_at w (.cells #[.int .i64 room, .slice ao xs.length c] 25) _ rfl) (.cells #[.int .i64 0, .slice none 0 0] 25))
    have H4 := (b1.block _ (by simp only [World.size_alloc]; omega)).trans (heap_new_at (w.alloc (.cells #[.int .i64 room, .slice ao xs.length c] 25)) (.cells #[.int .i64 0, .slice none 0 0] 25) (w.heap.size + 1) (by simp))
    have BB := below_join B0.out b1
    have zz := b1.size
    simp only [World.size_alloc] at zz
    obtain ⟨d0, d1, f0, f1⟩ := two_cells H4
    clear H2 H4
    go_wp2
    refine bodyPost_ret (v := .tuple #[.agg #[.int .i64 0, .slice none 0 0], .bool false]) (by simp [results, Try.results14, go_sem, *]) rfl ?_
    refine ⟨none, 0, rfl, own_nil _ _, ?_⟩
    repeat' (first | exact Below.refl _ _ | exact Nat.le_refl _ | assumption | refine Below.drew ?_ | refine below_drewN ?_ _ | (refine Below.alloc ?_ (by first | exact Nat.le_refl _ | omega | (simp; done) | (simp; omega)) _) | (refine Below.setCell ?_ (by first | exact Nat.le_refl _ | omega | (simp; done) | (simp; omega)) _))
  cases hb : byteB b
  · have HR := Lib.hid (putR_no (room := room) (xs := xs) (b := b) (by simp [putB, hb]))
    rw [HR.out]
    go_enter Try.func14, Try.ntmps14
    go_wp2_with fail
    refine (implFifoValid_any room ao xs c _ hx0 (by omega)).mono ?_
    rintro e w1 ⟨rfl, b1⟩
    go_wp2_with fail
    refine (isByte_any b w1).mono ?_
    rintro e w2 ⟨rfl, rfl⟩
    have H2 := (b1.block _ (by simp only [World.size_alloc]; omega)).trans (box_alloc (heap_new_at w (.cells #[.int .i64 room, .slice ao xs.length c] 25) _ rfl) (.cells #[.int .i64 0, .slice none 0 0] 25))
    have H4 := (b1.block _ (by simp only [World.size_alloc]; omega)).trans (heap_new_at (w.alloc (.cells #[.int .i64 room, .slice ao xs.length c] 25)) (.cells #[.int .i64 0, .slice none 0 0] 25) (w.heap.size + 1) (by simp))
    have BB := below_join B0.out b1
    have zz := b1.size
    simp only [World.size_alloc] at zz
    obtain ⟨d0, d1, f0, f1⟩ := two_cells H4
    clear H2 H4
    go_wp2
    refine bodyPost_ret (v := .tuple #[.agg #[.int .i64 0, .slice none 0 0], .bool false]) (by simp [results, Try.results14, go_sem, *]) rfl ?_
    refine ⟨none, 0, rfl, own_nil _ _, ?_⟩
    repeat' (first | exact Below.refl _ _ | exact Nat.le_refl _ | assumption | refine Below.drew ?_ | refine below_drewN ?_ _ | (refine Below.alloc ?_ (by first | exact Nat.le_refl _ | omega | (simp; done) | (simp; omega)) _) | (refine Below.setCell ?_ (by first | exact Nat.le_refl _ | omega | (simp; done) | (simp; omega)) _))
  have ff := fifoB_facts hv
  obtain ⟨R, rfl⟩ : ∃ R : Nat, room = (R : Int) := Int.eq_ofNat_of_zero_le (by omega)
  have hr16 : R ≤ 16 := by omega
  have hr1 : 1 ≤ R := by omega
  have hlr : xs.length ≤ R := by omega
  clear ff
  by_cases hl : xs.length < R
  · have HR := Lib.hid (putR_yes (room := (R : Int)) (xs := xs) (b := b) (by simp [putB, hv, hb]; omega))
    rw [HR.out]
    go_enter Try.func14, Try.ntmps14
    go_wp2_with fail
    refine (implFifoValid_any (R : Int) ao xs c _ hx0 (by omega)).mono ?_
    rintro e w1 ⟨rfl, b1⟩
    go_wp2_with fail
    refine (isByte_any b w1).mono ?_
    rintro e w2 ⟨rfl, rfl⟩
    have H2 := (b1.block _ (by simp only [World.size_alloc]; omega)).trans (box_alloc (heap_new_at w (.cells #[.int .i64 (R : Int), .slice ao xs.length c] 25) _ rfl) (.cells #[.int .i64 0, .slice none 0 0] 25))
    have H4 := (b1.block _ (by simp only [World.size_alloc]; omega)).trans (heap_new_at (w.alloc (.cells #[.int .i64 (R : Int), .slice ao xs.length c] 25)) (.cells #[.int .i64 0, .slice none 0 0] 25) (w.heap.size + 1) (by simp))
    have BB := below_join B0.out b1
    have zz := b1.size
    simp only [World.size_alloc] at zz
    obtain ⟨c0, c1⟩ := cells2 H2
    have HH4 := Lib.hid H4
    clear H2 H4
    go_wp2_with fail
    refine (ringOf_any R ao xs c w1 (hx0.below b1) hr16 hlr).mono ?_
    rintro e w2 ⟨g, rfl, hg, R2, b2⟩
    have H42 := Lib.hid ((b2.block _ (by omega)).trans HH4.out)
    have B2 := BB.trans (b2.mono BB.size)
    clear c0 c1 b1 b2 BB
    go_wp2_with fail
    refine (put_yes g R xs b w2 R2 hr16 hl).mono ?_
    rintro e w3 ⟨rfl, R3, g3⟩
    have H43 := Lib.hid (box_only' H42.out g3 (by omega))
    have B3 : Below w.heap.size w w3 := below_only B2 g3 (by omega)
    have z3 := g3.size
    clear H42 B2 R2 g3 HH4
    go_wp2_with fail
    refine (ringFifo_any g R (xs ++ [b]) w3 R3 hr16 hr1 (by simp; omega)).mono ?_
    rintro e w4 ⟨a4, c4, rfl, o4, b4⟩
    obtain ⟨d0, d1, f0, f1⟩ := two_cells ((b4.block _ (box_lt H43.out)).trans H43.out)
    have hlt := box_lt H43.out
    have B4 := B3.trans (b4.mono B3.size)
    go_wp2
    refine bodyPost_ret (v := .tuple #[.agg #[.int .i64 (R : Int), .slice a4 (xs ++ [b]).length c4], .bool true]) (by simp [results, Try.results14, go_sem, *]) rfl ?_
    refine ⟨a4, c4, rfl, own_base (own_set (own_set o4 _ _ hlt) _ _ hlt) B3.size, ?_⟩
    repeat' (first | exact Below.refl _ _ | exact Nat.le_refl _ | assumption | refine Below.drew ?_ | refine below_drewN ?_ _ | (refine Below.alloc ?_ (by first | exact Nat.le_refl _ | omega | (simp; done) | (simp; omega)) _) | (refine Below.setCell ?_ (by first | exact Nat.le_refl _ | omega | (simp; done) | (simp; omega)) _))
  · have HR := Lib.hid (putR_no (room := (R : Int)) (xs := xs) (b := b) (by simp [putB]; intros; omega))
    rw [HR.out]
    go_enter Try.func14, Try.ntmps14
    go_wp2_with fail
    refine (implFifoValid_any (R : Int) ao xs c _ hx0 (by omega)).mono ?_
    rintro e w1 ⟨rfl, b1⟩
    go_wp2_with fail
    refine (isByte_any b w1).mono ?_
    rintro e w2 ⟨rfl, rfl⟩
    have H2 := (b1.block _ (by simp only [World.size_alloc]; omega)).trans (box_alloc (heap_new_at w (.cells #[.int .i64 (R : Int), .slice ao xs.length c] 25) _ rfl) (.cells #[.int .i64 0, .slice none 0 0] 25))
    have H4 := (b1.block _ (by simp only [World.size_alloc]; omega)).trans (heap_new_at (w.alloc (.cells #[.int .i64 (R : Int), .slice ao xs.length c] 25)) (.cells #[.int .i64 0, .slice none 0 0] 25) (w.heap.size + 1) (by simp))
    have BB := below_join B0.out b1
    have zz := b1.size
    simp only [World.size_alloc] at zz
    obtain ⟨c0, c1⟩ := cells2 H2
    have HH4 := Lib.hid H4
    clear H2 H4
    go_wp2_with fail
    refine (ringOf_any R ao xs c w1 (hx0.below b1) hr16 hlr).mono ?_
    rintro e w2 ⟨g, rfl, hg, R2, b2⟩
    have H42 := Lib.hid ((b2.block _ (by omega)).trans HH4.out)
    have B2 := BB.trans (b2.mono BB.size)
    clear c0 c1 b1 b2 BB
    go_wp2_with fail
    refine (put_no g R xs b w2 R2 (by omega)).mono ?_
    rintro e w3 ⟨rfl, b3⟩
    obtain ⟨d0, d1, f0, f1⟩ := two_cells ((b3.block _ (box_lt H42.out)).trans H42.out)
    have B3 := B2.trans (b3.mono B2.size)
    go_wp2
    refine bodyPost_ret (v := .tuple #[.agg #[.int .i64 0, .slice none 0 0], .bool false]) (by simp [results, Try.results14, go_sem, *]) rfl ?_
    refine ⟨none, 0, rfl, own_nil _ _, ?_⟩
    repeat' (first | exact Below.refl _ _ | exact Nat.le_refl _ | assumption | refine Below.drew ?_ | refine below_drewN ?_ _ | (refine Below.alloc ?_ (by first | exact Nat.le_refl _ | omega | (simp; done) | (simp; omega)) _) | (refine Below.setCell ?_ (by first | exact Nat.le_refl _ | omega | (simp; done) | (simp; omega)) _))

set_option maxHeartbeats 1000000 in
theorem specFifoPut_any (room : Int) (ao : Option Addr) (xs : List Int) (c : Nat) (b : Int) (w : World) (hx : Ints w ao xs) (lx : xs.length ≤ 1048576) (hA : ao = none → xs.length = 0 ∧ c = 0) :
    Calls Try.prog 15 #[.agg #[.int .i64 room, .slice ao xs.length c], .int .i64 b] w (PutP w (putR room xs b)) := by
  have HA := Lib.hid hA
  clear hA
  have b0 : Below w.heap.size w ((w.alloc (.cells #[.int .i64 room, .slice ao xs.length c] 25)).alloc (.cells #[.int .i64 0, .slice none 0 0] 25)) := ((Below.refl _ _).alloc (Nat.le_refl _) _).alloc (by simp) _
  have B0 := Lib.hid b0
  have hx0 := hx.below b0
  clear b0
  cases hv : fifoB room xs
  · have HR := Lib.hid (putR_no (room := room) (xs := xs) (b := b) (by simp [putB, hv]))
    rw [HR.out]
    go_enter Try.func15, Try.ntmps15
    go_wp2_with fail
    refine (specFifoValid_any room ao xs c _ hx0 (by omega)).mono ?_
    rintro e w1 ⟨rfl, b1⟩
    have H2 := (b1.block _ (by simp only [World.size_alloc]; omega)).trans (box_alloc (heap_new_at w (.cells #[.int .i64 room, .slice ao xs.length c] 25) _ rfl) (.cells #[.int .i64 0, .slice none 0 0] 25))
    have H4 := (b1.block _ (by simp only [World.size_alloc]; omega)).trans (heap_new_at (w.alloc (.cells #[.int .i64 room, .slice ao xs.length c] 25)) (.cells #[.int .i64 0, .slice none 0 0] 25) (w.heap.size + 1) (by simp))
    have BB := below_join B0.out b1
    have zz := b1.size
    simp only [World.size_alloc] at zz
    obtain ⟨d0, d1, f0, f1⟩ := two_cells H4
    clear H2 H4
    go_wp2
    refine bodyPost_ret (v := .tuple #[.agg #[.int .i64 0, .slice none 0 0], .bool false]) (by simp [results, Try.results15, go_sem, *]) rfl ?_
    refine ⟨none, 0, rfl, own_nil _ _, ?_⟩
    repeat' (first | exact Below.refl _ _ | exact Nat.le_refl _ | assumption | refine Below.drew ?_ | refine below_drewN ?_ _ | (refine Below.alloc ?_ (by first | exact Nat.le_refl _ | omega | (simp; done) | (simp; omega)) _) | (refine Below.setCell ?_ (by first | exact Nat.le_refl _ | omega | (simp; done) | (simp; omega)) _))
  cases hb : inB b 0 255
  · have HR := Lib.hid (putR_no (room := room) (xs := xs) (b := b) (by rw [inB_byte] at hb; simp [putB, hb]))
    rw [HR.out]
    go_enter Try.func15, Try.ntmps15
    go_wp2_with fail
    refine (specFifoValid_any room ao xs c _ hx0 (by omega)).mono ?_
    rintro e w1 ⟨rfl, b1⟩
    go_wp2_with fail
    refine (l6In_any b 0 255 w1).mono ?_
    rintro e w2 ⟨rfl, rfl⟩
    have H2 := (b1.block _ (by simp only [World.size_alloc]; omega)).trans (box_alloc (heap_new_at w (.cells #[.int .i64 room, .slice ao xs.length c] 25) _ rfl) (.cells #[.int .i64 0, .slice none 0 0] 25))
    have H4 := (b1.block _ (by simp only [World.size_alloc]; omega)).trans (heap_new_at (w.alloc (.cells #[.int .i64 room, .slice ao xs.length c] 25)) (.cells #[.int .i64 0, .slice none 0 0] 25) (w.heap.size + 1) (by simp))
    have BB := below_join B0.out b1
    have zz := b1.size
    simp only [World.size_alloc] at zz
    obtain ⟨d0, d1, f0, f1⟩ := two_cells H4
    clear H2 H4
    go_wp2
    refine bodyPost_ret (v := .tuple #[.agg #[.int .i64 0, .slice none 0 0], .bool false]) (by simp [results, Try.results15, go_sem, *]) rfl ?_
    refine ⟨none, 0, rfl, own_nil _ _, ?_⟩
    repeat' (first | exact Below.refl _ _ | exact Nat.le_refl _ | assumption | refine Below.drew ?_ | refine below_drewN ?_ _ | (refine Below.alloc ?_ (by first | exact Nat.le_refl _ | omega | (simp; done) | (simp; omega)) _) | (refine Below.setCell ?_ (by first | exact Nat.le_refl _ | omega | (simp; done) | (simp; omega)) _))
  have ff := fifoB_facts hv
  have hr1 := ff.1.1
  have hr16 := ff.1.2
  have hlr := ff.2.1
  clear ff
  by_cases hl : (xs.length : Int) = room
  · have HR := Lib.hid (putR_no (room := room) (xs := xs) (b := b) (by simp [putB]; intros; omega))
    have hlb : ((xs.length : Int) == room) = true := by simpa using hl
    rw [HR.out]
    clear hl
    go_enter Try.func15, Try.ntmps15
    go_wp2_with fail
    refine (specFifoValid_any room ao xs c _ hx0 (by omega)).mono ?_
    rintro e w1 ⟨rfl, b1⟩
    go_wp2_with fail
    refine (l6In_any b 0 255 w1).mono ?_
    rintro e w2 ⟨rfl, rfl⟩
    have H2 := (b1.block _ (by simp only [World.size_alloc]; omega)).trans (box_alloc (heap_new_at w (.cells #[.int .i64 room, .slice ao xs.length c] 25) _ rfl) (.cells #[.int .i64 0, .slice none 0 0] 25))
    have H4 := (b1.block _ (by simp only [World.size_alloc]; omega)).trans (heap_new_at (w.alloc (.cells #[.int .i64 room, .slice ao xs.length c] 25)) (.cells #[.int .i64 0, .slice none 0 0] 25) (w.heap.size + 1) (by simp))
    have BB := below_join B0.out b1
    have zz := b1.size
    simp only [World.size_alloc] at zz
    obtain ⟨c0, c1⟩ := cells2 H2
    obtain ⟨d0, d1, f0, f1⟩ := two_cells H4
    clear H2 H4
    go_wp2
    refine bodyPost_ret (v := .tuple #[.agg #[.int .i64 0, .slice none 0 0], .bool false]) (by simp [results, Try.results15, go_sem, *]) rfl ?_
    refine ⟨none, 0, rfl, own_nil _ _, ?_⟩
    repeat' (first | exact Below.refl _ _ | exact Nat.le_refl _ | assumption | refine Below.drew ?_ | refine below_drewN ?_ _ | (refine Below.alloc ?_ (by first | exact Nat.le_refl _ | omega | (simp; done) | (simp; omega)) _) | (refine Below.setCell ?_ (by first | exact Nat.le_refl _ | omega | (simp; done) | (simp; omega)) _))
  · have HR := Lib.hid (putR_yes (room := room) (xs := xs) (b := b) (by rw [inB_byte] at hb; simp [putB, hv, hb]; omega))
    have hlb : ((xs.length : Int) == room) = false := by simpa using hl
    rw [HR.out]
    clear hl
    go_enter Try.func15, Try.ntmps15
    go_wp2_with fail
    refine (specFifoValid_any room ao xs c _ hx0 (by omega)).mono ?_
    rintro e w1 ⟨rfl, b1⟩
    go_wp2_with fail
    refine (l6In_any b 0 255 w1).mono ?_
    rintro e w2 ⟨rfl, rfl⟩
    have H2 := (b1.block _ (by simp only [World.size_alloc]; omega)).trans (box_alloc (heap_new_at w (.cells #[.int .i64 room, .slice ao xs.length c] 25) _ rfl) (.cells #[.int .i64 0, .slice none 0 0] 25))
    have H4 := (b1.block _ (by simp only [World.size_alloc]; omega)).trans (heap_new_at (w.alloc (.cells #[.int .i64 room, .slice ao xs.length c] 25)) (.cells #[.int .i64 0, .slice none 0 0] 25) (w.heap.size + 1) (by simp))
    have BB := below_join B0.out b1
    have zz := b1.size
    simp only [World.size_alloc] at zz
    obtain ⟨c0, c1⟩ := cells2 H2
    obtain ⟨d0, d1, f0, f1⟩ := two_cells H4
    have HH4 := Lib.hid H4
    have hx1 := hx0.below b1
    have zz4 : w.heap.size + 1 < w1.heap.size := by omega
    clear H2 H4
    go_wp2_with fail
    have HS := Lib.hid (fun (v : World) (hv : Below (w.heap.size + 1) w1 v) => (⟨(hv.cell (p := ⟨w.heap.size, 0, none⟩) (Nat.lt_succ_self _)).trans c0, (hv.cell (p := ⟨w.heap.size, 1, none⟩) (Nat.lt_succ_self _)).trans c1, hv⟩ : v.cell? ⟨w.heap.size, 0, none⟩ = some (.int .i64 room) ∧ v.cell? ⟨w.heap.size, 1, none⟩ = some (.slice ao xs.length c) ∧ Below (w.heap.size + 1) w1 v))
    have hB1 : w.heap.size + 1 ≤ w1.heap.size := by omega
    go_region_held3 (fun v => v.cell? ⟨w.heap.size, 0, none⟩ = some (.int .i64 room) ∧ v.cell? ⟨w.heap.size, 1, none⟩ = some (.slice ao xs.length c) ∧ Below (w.heap.size + 1) w1 v)
      ((refine HS.out _ ?_; go_split_ands; repeat (first | assumption | exact Below.refl _ _ | refine Below.drew ?_ | refine below_allocB ?_ hB1 _ | refine Below.setCell ?_ (by simp) _)))
      (first
        | (refine step_append_row (by rfl) _ _ _ (by rfl) w1.heap.size 3 _ 1 8 Try.underlying23 int_info rfl (by decide) (some ⟨_, 0, none⟩) 0 0 [] (by rfl) ?ho ao xs.length c (xs.map (Value.int .i64)) (by rfl) ?hn (by simp) (ints_one _) HA.out (by simp only [maxLen]; omega) (by omega) ?hb ?_
           case ho => first | exact own_made_at _ #[] _ _ 0 _ _ rfl (by first | exact Nat.le_refl _ | (simp; done) | (simp; omega)) (by simp) rfl | exact World.ownsRow.alloc (own_made_at _ #[] _ _ 0 _ _ rfl (Nat.le_refl _) (by simp) rfl) _ | exact own_made_at _ #[] _ _ 0 _ _ (by simp) (by simp) (by simp) rfl
           case hn => (go_split_ands; exact ints_bel hx (BB.trans (Below.mono (by assumption) (Nat.le_succ _))))
           case hb => (go_split_ands; exact Below.size (by assumption))
           intro aA dA wA hoA hgA
           rw [Nat.zero_add, List.nil_append] at hoA
           rw [Nat.zero_add]
           have bA : Below (w.heap.size + 1) w1 wA := (by go_split_ands; exact below_growB (by assumption) hgA hB1 (fun k hk => by simp [Value.ownBlock] at hk; omega))
           have hA4 := box_grow (b := w.heap.size + 1) (by first | exact box_alloc HH4.out _ | exact box_alloc (box_alloc HH4.out _) _) hgA (fun k hk => by simp [Value.ownBlock] at hk; omega))
        | (refine step_append_row (by rfl) _ _ _ (by rfl) w1.heap.size 3 _ 1 8 Try.underlying23 int_info rfl (by decide) aA xs.length dA (xs.map (Value.int .i64)) (by rfl) ?ho (some ⟨_, 0, none⟩) 1 1 [.int .i64 b] (by rfl) ?hn (by rfl) ?h1 (by simp) (by simp only [maxLen]; omega) (by omega) ?hb ?_
           case ho => first | exact hoA | exact hoA.alloc _
           case hn => first | exact cells_new _ #[.int .i64 b] _ rfl | exact cells_grow (Cells.drew (cells_new _ #[.int .i64 b] _ (by simp))) hgA (by simp [Value.ownBlock]) | exact cells_grow (Cells.drew (Cells.keep (cells_new _ #[.int .i64 b] _ rfl) (Keeps.alloc _ _))) hgA (by simp [Value.ownBlock])
           case h1 => (simp [Value.oneCell'])
           case hb => (go_split_ands; exact Below.size (by assumption))
           intro aC dC wC hoC hgC
           have bC : Below (w.heap.size + 1) w1 wC := (by go_split_ands; exact below_growB (by assumption) hgC hB1 (fun k hk => by have := (hoA.lt k hk).1; omega))
           have hC4 := box_grow (b := w.heap.size + 1) (by first | exact hA4 | exact box_alloc hA4 _) hgC (fun k hk => by have := (hoA.lt k hk).1; omega)
           obtain ⟨e0, e1, k0, k1⟩ := two_cells hC4
           (have hzz := bC.size)))
    all_goals
      go_wp2
      refine bodyPost_ret (v := .tuple #[.agg #[.int .i64 room, .slice aC (xs ++ [b]).length dC], .bool true]) (by simp [results, Try.results15, go_sem, *]) rfl ?_
      have BC : Below w.heap.size w wC := BB.trans (bC.mono (Nat.le_succ _))
      refine ⟨aC, dC, rfl, ?_, ?_⟩
      · exact own_base (own_set (own_set (OwnI.snoc hoC) _ _ (by simp; omega)) _ _ (by simp; omega)) BB.size
      · repeat' (first | exact Below.refl _ _ | exact Nat.le_refl _ | assumption | refine Below.drew ?_ | refine below_drewN ?_ _ | (refine Below.alloc ?_ (by first | exact Nat.le_refl _ | omega | (simp; done) | (simp; omega)) _) | (refine Below.setCell ?_ (by first | exact Nat.le_refl _ | omega | (simp; done) | (simp; omega)) _))
end Go.Proofs.Ytfjdmdjoebjciaa
