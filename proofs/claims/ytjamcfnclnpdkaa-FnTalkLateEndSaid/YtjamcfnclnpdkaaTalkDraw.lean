/- Talks: the draws. -/
import Derived.Test.YtjamcfnclnpdkaaTalk7
import Derived.Test.YtjamcfnclnpdkaaDraw
namespace Go.Proofs.Ytjamcfnclnpdkaa
open Go.RowKit

theorem box_only {w w' : World} {b rb : Nat} {o : Obj} (h : w.heap[b]? = some o) (g : w.grownBy w' (some rb)) (hb : rb < b) : w'.heap[b]? = some o :=
  (g.block b (Array.getElem?_eq_some_iff.1 h).1 (fun e => by injection e; omega)).trans h
theorem box_lt {w : World} {b : Nat} {o : Obj} (h : w.heap[b]? = some o) : b < w.heap.size := (Array.getElem?_eq_some_iff.1 h).1
theorem three_set0 {w : World} {b : Nat} {u v x : Value} {t : TypeId} (h : w.heap[b]? = some (.cells #[u, v, x] t (0, 0))) (y : Value) : (w.setCell ⟨b, 0, none⟩ y).heap[b]? = some (.cells #[y, v, x] t (0, 0)) := by
  simp [World.setCell, Array.getElem?_modify, h]
theorem three_set1 {w : World} {b : Nat} {u v x : Value} {t : TypeId} (h : w.heap[b]? = some (.cells #[u, v, x] t (0, 0))) (y : Value) : (w.setCell ⟨b, 1, none⟩ y).heap[b]? = some (.cells #[u, y, x] t (0, 0)) := by
  simp [World.setCell, Array.getElem?_modify, h]
theorem three_set2 {w : World} {b : Nat} {u v x : Value} {t : TypeId} (h : w.heap[b]? = some (.cells #[u, v, x] t (0, 0))) (y : Value) : (w.setCell ⟨b, 2, none⟩ y).heap[b]? = some (.cells #[u, v, y] t (0, 0)) := by
  simp [World.setCell, Array.getElem?_modify, h]
theorem box_set {w : World} {b : Nat} {o : Obj} (h : w.heap[b]? = some o) (a : Addr) (u : Value) (hb : b ≠ a.block) : (w.setCell a u).heap[b]? = some o := (Below.heap_setCell w a u b hb).trans h
theorem box_alloc {w : World} {b : Nat} {o : Obj} (h : w.heap[b]? = some o) (p : Obj) : (w.alloc p).heap[b]? = some o := (Below.heap_alloc w p b (box_lt h)).trans h
theorem rd_set {w : World} {rb m : Nat} (h : Rd w rb m) (a : Addr) (u : Value) (hb : rb < a.block) : Rd (w.setCell a u) rb m := h.grown (grown_set w a u) (fun k hk => by injection hk; omega)
theorem rd_alloc {w : World} {rb m : Nat} (h : Rd w rb m) (o : Obj) : Rd (w.alloc o) rb m := h.below ((Below.refl _ _).alloc (Nat.le_refl _) o)
theorem only_set {w0 w : World} {rb : Nat} (h : w0.grownBy w (some rb)) (a : Addr) (u : Value) (hb : w0.heap.size ≤ a.block) : w0.grownBy (w.setCell a u) (some rb) := only_grown h (grown_set w a u) (fun g hg => by injection hg; omega)
theorem only_alloc {w0 w : World} {rb : Nat} (h : w0.grownBy w (some rb)) (o : Obj) : w0.grownBy (w.alloc o) (some rb) := only_grown h (row := none) (only_below ((Below.refl _ _).alloc (Nat.le_refl _) o) none) (fun g hg => by cases hg)

theorem cells_only {w w' : World} {g off rb : Nat} {vs : List Value} (h : Cells w (some ⟨g, off, none⟩) vs) (gr : w.grownBy w' (some rb)) (_hg : rb < g) : Cells w' (some ⟨g, off, none⟩) vs := by
  rcases h with h | ⟨b, o, h, hc⟩
  · exact .inl h
  · refine .inr ⟨b, o, h, fun j u hu => ?_⟩
    injection h with h
    injection h with h1 h2 h3
    subst h1 h2
    exact gr.cell (hc j u hu) (by simp; omega)
theorem own_set_ne {w : World} {base e size n c : Nat} {ao : Option Addr} {vs : List Value} (h : w.ownsRow base e size (.slice ao n c) n vs) (a : Addr) (u : Value) (hne : ∀ q, ao = some q → q.block ≠ a.block) : (w.setCell a u).ownsRow base e size (.slice ao n c) n vs :=
  own_only h (grown_set w a u) fun _ hg => hne _ hg
theorem ints_new (w : World) (xs : List Int) (cs : Array Value) (t : TypeId) (hcs : cs.toList = xs.map (Value.int .i64)) : Ints (w.alloc (.cells cs t)) (some ⟨w.heap.size, 0, none⟩) xs := by
  have := cells_new w cs t rfl
  rw [hcs] at this
  exact this

set_option maxHeartbeats 4000000 in
theorem l92Talk_any (rb m : Nat) (w : World) (h : Rd w rb m) (hm : m ≤ 1000) :
    Calls Try.prog 42 #[.pointer (some ⟨rb, 0, none⟩)] w fun e w' => ∃ (n t : Int) (a : Option Addr) (xs : List Int) (c : Nat), e = .returned (.agg #[.int .i64 n, .int .i64 t, .slice a xs.length c]) ∧ xs.length ≤ 2 ∧ -1 ≤ n ∧ n ≤ 2 ∧ OwnI w' w.heap.size a c xs ∧ Rd w' rb (m + 10) ∧ w.grownBy w' (some rb) := by
  have hrb2 := h.lt
  go_enter Try.func42, Try.ntmps42
  go_wp2_with fail
  refine name_calls fun W hW => ?_
  have R : Rd W rb m := by rw [hW]; exact rd_alloc h _
  have G : w.grownBy W (some rb) := by rw [hW]; exact only_below ((Below.refl _ _).alloc (Nat.le_refl _) _) _
  have H2 : W.heap[w.heap.size]? = some (.cells #[.int .i64 0, .int .i64 0, .slice none 0 0] 25 (0, 0)) := by rw [hW]; exact heap_new_at _ _ _ rfl
  clear hW h
  refine (pick_any rb _ 2 W R (by omega)).mono ?_
  rintro e w1 ⟨k1, rfl, k10, k11, R', g⟩
  replace R := R'
  replace G := only_trans G g
  replace H2 := box_only H2 g hrb2
  have z1 := box_lt H2
  have hrb3 : rb < w1.heap.size + 1 := by omega
  clear g R'
  go_wp2_with fail
  refine name_calls fun W2 hW2 => ?_
  have H3 : W2.heap[w1.heap.size + 1]? = some (.cells #[.int .i64 k1, .int .i64 0, .slice (some ⟨w1.heap.size, 0, none⟩) 0 0] 25 (0, 0)) := by rw [hW2]; exact heap_new_at _ _ _ (by simp)
  have o : OwnI W2 (w.heap.size + 1) (some ⟨w1.heap.size, 0, none⟩) 0 [] := by rw [hW2]; exact World.ownsRow.alloc (own_made_at w1 #[] _ _ 0 _ _ rfl (by omega) (by simp) rfl) _
  replace R : Rd W2 rb (m + 1) := by rw [hW2]; exact rd_alloc (rd_alloc R _) _
  replace G : w.grownBy W2 (some rb) := by rw [hW2]; exact only_alloc (only_alloc G _) _
  replace H2 : W2.heap[w.heap.size]? = some (.cells #[.int .i64 0, .int .i64 0, .slice none 0 0] 25 (0, 0)) := by rw [hW2]; exact box_alloc (box_alloc H2 _) _
  clear hW2
  refine (pick_any rb _ 2 W2 R (by omega)).mono ?_
  rintro e w3 ⟨k3, rfl, k30, k31, R', g⟩
  replace R := R'
  replace G := only_trans G g
  replace H2 := box_only H2 g hrb2
  replace H3 := box_only H3 g hrb3
  replace o := own_only o g (fun q hq => by have := (own_in o _ hq).1; simp at this; omega)
  clear R'
  by_cases hk : k3 = 0
  case' pos =>
    subst hk
    go_wp2_with fail
    refine (pick_any rb _ 5 w3 R (by omega)).mono ?_
    rintro e w4 ⟨k4, rfl, k40, k41, R', g⟩
    replace R := R'
    replace G := only_trans G g
    replace H2 := box_only H2 g hrb2
    replace H3 := box_only H3 g hrb3
    replace o := own_only o g (fun q hq => by have := (own_in o _ hq).1; simp at this; omega)
    clear R'
    obtain ⟨c0, c1, c2, f0, f1, f2⟩ := three_cells H3
    go_wp2_with fail
    clear c0 c1 c2 f0 f1 f2
    refine name_calls fun W5 hW5 => ?_
    replace R := rd_set R ⟨w1.heap.size + 1, 1, none⟩ (.int .i64 (1 + k4)) hrb3
    replace G := only_set G ⟨w1.heap.size + 1, 1, none⟩ (.int .i64 (1 + k4)) (by simp; omega)
    replace H2 := box_set H2 ⟨w1.heap.size + 1, 1, none⟩ (.int .i64 (1 + k4)) (by simp; omega)
    replace H3 := three_set1 H3 (.int .i64 (1 + k4))
    rw [← hW5] at R G H2 H3
    clear hW5 o
    have o : OwnI W5 (w.heap.size + 1) none 0 [] := own_nil _ _
    refine (pick_any rb _ 256 W5 R (by omega)).mono ?_
    rintro e w6 ⟨k5, rfl, k50, k51, R', g⟩
    replace R := R'
    replace G := only_trans G g
    replace H2 := box_only H2 g hrb2
    replace H3 := box_only H3 g hrb3
    replace o := own_only o g (fun q hq => by have := (own_in o _ hq).1; simp at this; omega)
    clear R'
    go_wp2_with fail
    refine (pick_any rb _ 256 w6 R (by omega)).mono ?_
    rintro e w7 ⟨k6, rfl, k60, k61, R', g⟩
    replace R := R'
    replace G := only_trans G g
    replace H2 := box_only H2 g hrb2
    replace H3 := box_only H3 g hrb3
    replace o := own_only o g (fun q hq => by have := (own_in o _ hq).1; simp at this; omega)
    clear R'
    obtain ⟨c0, c1, c2, f0, f1, f2⟩ := three_cells H3
    have z7 := box_lt H3
    go_wp2_with fail
    clear c0 c1 c2 f0 f1 f2
    refine name_calls fun W8 hW8 => ?_
    have R8 : Rd W8 rb (m + 5) := by rw [hW8]; exact rd_alloc (rd_set (R.mono (by omega)) _ _ hrb3) _
    have G8 : w.grownBy W8 (some rb) := by rw [hW8]; exact only_alloc (only_set G _ _ (by simp; omega)) _
    have H28 : W8.heap[w.heap.size]? = some (.cells #[.int .i64 0, .int .i64 0, .slice none 0 0] 25 (0, 0)) := by rw [hW8]; exact box_alloc (box_set H2 _ _ (by simp; omega)) _
    have H38 : W8.heap[w1.heap.size + 1]? = some (.cells #[.int .i64 k1, .int .i64 (1 + k4), .slice (some ⟨w7.heap.size, 0, none⟩) 2 2] 25 (0, 0)) := by rw [hW8]; exact box_alloc (three_set2 H3 _) _
    have o8 : OwnI W8 (w.heap.size + 1) (some ⟨w7.heap.size, 0, none⟩) 2 [k5, k6] := by rw [hW8]; exact own_lit_at _ #[.int .i64 k5, .int .i64 k6] _ _ 2 _ _ (by simp) (by simp; omega) (by simp [maxLen]) rfl
    have on8 : w7.heap.size ≠ w1.heap.size + 1 := by omega
    clear hW8 R G H2 H3 o
    obtain ⟨xs, hxs⟩ : ∃ xs : List Int, xs = [k5, k6] := ⟨_, rfl⟩
    have hl : xs.length = 2 := by rw [hxs]; rfl
    rw [← hxs] at o8
    clear hxs
    have R := R8
    have G := G8
    have H2 := H28
    have H3 := H38
    have o := o8
    have on : ∀ q : Addr, some (⟨w7.heap.size, 0, none⟩ : Addr) = some q → q.block ≠ w1.heap.size + 1 := fun q hq => by injection hq with hq; subst hq; exact on8
    clear R8 G8 H28 H38 o8 on8
    have HD : Hid (∃ (t : Int) (a : Option Addr) (c : Nat), Rd W8 rb (m + 5) ∧ w.grownBy W8 (some rb) ∧ W8.heap[w.heap.size]? = some (.cells #[.int .i64 0, .int .i64 0, .slice none 0 0] 25 (0, 0)) ∧ W8.heap[w1.heap.size + 1]? = some (.cells #[.int .i64 k1, .int .i64 t, .slice a xs.length c] 25 (0, 0)) ∧ xs.length ≤ 2 ∧ OwnI W8 (w.heap.size + 1) a c xs ∧ ∀ q : Addr, a = some q → q.block ≠ w1.heap.size + 1) :=
      Lib.hid ⟨_, _, _, R, G, H2, by rw [hl]; exact H3, by omega, o, on⟩
    clear R G H2 H3 o on hl
  case' neg =>
    have hkb : (k3 == 0) = false := by simpa using hk
    clear hk
    go_wp2_with fail
    clear hkb
    obtain ⟨W8, rfl⟩ : ∃ W8 : World, W8 = w3 := ⟨_, rfl⟩
    obtain ⟨xs, hxs⟩ : ∃ xs : List Int, xs = [] := ⟨_, rfl⟩
    have hl : xs.length = 0 := by rw [hxs]; rfl
    rw [← hxs] at o
    clear hxs
    have HD : Hid (∃ (t : Int) (a : Option Addr) (c : Nat), Rd W8 rb (m + 5) ∧ w.grownBy W8 (some rb) ∧ W8.heap[w.heap.size]? = some (.cells #[.int .i64 0, .int .i64 0, .slice none 0 0] 25 (0, 0)) ∧ W8.heap[w1.heap.size + 1]? = some (.cells #[.int .i64 k1, .int .i64 t, .slice a xs.length c] 25 (0, 0)) ∧ xs.length ≤ 2 ∧ OwnI W8 (w.heap.size + 1) a c xs ∧ ∀ q : Addr, a = some q → q.block ≠ w1.heap.size + 1) :=
      Lib.hid ⟨0, some ⟨w1.heap.size, 0, none⟩, 0, R.mono (by omega), G, H2, by rw [hl]; exact H3, by omega, o, fun q hq => by injection hq with hq; subst hq; simp⟩
    clear R G H2 H3 o hl
  all_goals
    obtain ⟨t, a, c, R, G, H2, H3, lx, o, on⟩ := HD.out
    clear HD
    refine (pick_any rb _ 30 W8 R (by omega)).mono ?_
    rintro e w9 ⟨k8, rfl, k80, k81, R', g⟩
    replace R := R'
    replace G := only_trans G g
    replace H2 := box_only H2 g hrb2
    replace H3 := box_only H3 g hrb3
    replace o := own_only o g (fun q hq => by have := (own_in o _ hq).1; simp at this; omega)
    clear R'
    have z9 := box_lt H3
    by_cases h0 : k8 = 0
    case pos =>
      subst h0
      go_wp2_with fail
      refine name_calls fun WA hWA => ?_
      have rA := ints_new w9 [-1, 2] #[.int .i64 (-1), .int .i64 2] 3 rfl
      replace R := rd_alloc R (.cells #[.int .i64 (-1), .int .i64 2] 3)
      replace G := only_alloc G (.cells #[.int .i64 (-1), .int .i64 2] 3)
      replace H2 := box_alloc H2 (.cells #[.int .i64 (-1), .int .i64 2] 3)
      replace H3 := box_alloc H3 (.cells #[.int .i64 (-1), .int .i64 2] 3)
      replace o := World.ownsRow.alloc o (.cells #[.int .i64 (-1), .int .i64 2] 3)
      rw [← hWA] at rA R G H2 H3 o
      clear hWA
      refine (pick_any rb _ 2 WA R (by omega)).mono ?_
      rintro e wB ⟨kA, rfl, kA0, kA1, R', g⟩
      replace R := R'
      replace G := only_trans G g
      replace H2 := box_only H2 g hrb2
      replace H3 := box_only H3 g hrb3
      replace o := own_only o g (fun q hq => by have := (own_in o _ hq).1; simp at this; omega)
      clear R'
      replace rA := cells_only rA g (by omega)
      clear g
      obtain ⟨j, rfl⟩ := Int.eq_ofNat_of_zero_le kA0
      have hj : j < 2 := by omega
      have hjI : (j : Int) < 2 := by omega
      obtain ⟨b, off, v, hb, hv, hcv⟩ := Ints.at_ rA (k := j) hj
      injection hb with hb
      injection hb with hb1 hb2 hb3
      subst hb1 hb2
      have hv0 : -1 ≤ v ∧ v ≤ 2 := by
        match j, hj with
        | 0, _ => simp at hv; omega
        | 1, _ => simp at hv; omega
      obtain ⟨hv0, hv1⟩ := hv0
      rw [Nat.zero_add] at hcv
      obtain ⟨c0, c1, c2, f0, f1, f2⟩ := three_cells H3
      obtain ⟨d0, d1, d2, e0, e1, e2⟩ := three_cells H2
      have on2 : ∀ q : Addr, a = some q → q.block ≠ w.heap.size := fun q hq => by have := (own_in o _ hq).1; omega
      clear hv rA kA1 hb3 H2 H3
      go_wp2
      refine bodyPost_ret (v := .agg #[.int .i64 v, .int .i64 t, .slice a xs.length c]) (by simp [results, Try.results42, go_sem, *]) rfl ?_
      refine ⟨v, t, a, xs, c, rfl, lx, by omega, by omega, ?_, ?_, ?_⟩
      · refine own_base (base := w.heap.size + 1) ?_ (by omega)
        repeat (first | exact o | refine own_set_ne ?_ _ _ on | refine own_set_ne ?_ _ _ on2)
      · refine Rd.mono (m := m + 5 + 1 + 1) ?_ (by omega)
        repeat (first | exact R | refine rd_set ?_ _ _ hrb2 | refine rd_set ?_ _ _ hrb3)
      · repeat (first | exact G | refine only_set ?_ _ _ (by simp; omega) | refine only_set ?_ _ _ (by simp))
    by_cases h1 : k8 = 1
    case pos =>
      subst h1
      go_wp2_with fail
      refine name_calls fun WA hWA => ?_
      have rA := ints_new w9 [-1, 0, 5, 6] #[.int .i64 (-1), .int .i64 0, .int .i64 5, .int .i64 6] 3 rfl
      replace R := rd_alloc R (.cells #[.int .i64 (-1), .int .i64 0, .int .i64 5, .int .i64 6] 3)
      replace G := only_alloc G (.cells #[.int .i64 (-1), .int .i64 0, .int .i64 5, .int .i64 6] 3)
      replace H2 := box_alloc H2 (.cells #[.int .i64 (-1), .int .i64 0, .int .i64 5, .int .i64 6] 3)
      replace H3 := box_alloc H3 (.cells #[.int .i64 (-1), .int .i64 0, .int .i64 5, .int .i64 6] 3)
      replace o := World.ownsRow.alloc o (.cells #[.int .i64 (-1), .int .i64 0, .int .i64 5, .int .i64 6] 3)
      rw [← hWA] at rA R G H2 H3 o
      clear hWA
      refine (pick_any rb _ 4 WA R (by omega)).mono ?_
      rintro e wB ⟨kA, rfl, kA0, kA1, R', g⟩
      replace R := R'
      replace G := only_trans G g
      replace H2 := box_only H2 g hrb2
      replace H3 := box_only H3 g hrb3
      replace o := own_only o g (fun q hq => by have := (own_in o _ hq).1; simp at this; omega)
      clear R'
      replace rA := cells_only rA g (by omega)
      clear g
      obtain ⟨j, rfl⟩ := Int.eq_ofNat_of_zero_le kA0
      have hj : j < 4 := by omega
      have hjI : (j : Int) < 4 := by omega
      obtain ⟨b, off, v, hb, hv, hcv⟩ := Ints.at_ rA (k := j) hj
      injection hb with hb
      injection hb with hb1 hb2 hb3
      subst hb1 hb2
      rw [Nat.zero_add] at hcv
      obtain ⟨c0, c1, c2, f0, f1, f2⟩ := three_cells H3
      obtain ⟨d0, d1, d2, e0, e1, e2⟩ := three_cells H2
      have on2 : ∀ q : Addr, a = some q → q.block ≠ w.heap.size := fun q hq => by have := (own_in o _ hq).1; omega
      clear hv rA kA1 hb3 H2 H3
      go_wp2
      refine bodyPost_ret (v := .agg #[.int .i64 k1, .int .i64 v, .slice a xs.length c]) (by simp [results, Try.results42, go_sem, *]) rfl ?_
      refine ⟨k1, v, a, xs, c, rfl, lx, by omega, by omega, ?_, ?_, ?_⟩
      · refine own_base (base := w.heap.size + 1) ?_ (by omega)
        repeat (first | exact o | refine own_set_ne ?_ _ _ on | refine own_set_ne ?_ _ _ on2)
      · refine Rd.mono (m := m + 5 + 1 + 1) ?_ (by omega)
        repeat (first | exact R | refine rd_set ?_ _ _ hrb2 | refine rd_set ?_ _ _ hrb3)
      · repeat (first | exact G | refine only_set ?_ _ _ (by simp; omega) | refine only_set ?_ _ _ (by simp))
    have hb0 : (k8 == 0) = false := by simpa using h0
    have hb1 : (k8 == 1) = false := by simpa using h1
    clear h0 h1
    obtain ⟨c0, c1, c2, f0, f1, f2⟩ := three_cells H3
    obtain ⟨d0, d1, d2, e0, e1, e2⟩ := three_cells H2
    have on2 : ∀ q : Addr, a = some q → q.block ≠ w.heap.size := fun q hq => by have := (own_in o _ hq).1; omega
    clear H2 H3 g
    go_wp2
    refine bodyPost_ret (v := .agg #[.int .i64 k1, .int .i64 t, .slice a xs.length c]) (by simp [results, Try.results42, go_sem, *]) rfl ?_
    refine ⟨k1, t, a, xs, c, rfl, lx, by omega, by omega, ?_, ?_, ?_⟩
    · refine own_base (base := w.heap.size + 1) ?_ (by omega)
      repeat (first | exact o | refine own_set_ne ?_ _ _ on | refine own_set_ne ?_ _ _ on2)
    · refine Rd.mono (m := m + 5 + 1) ?_ (by omega)
      repeat (first | exact R | refine rd_set ?_ _ _ hrb2 | refine rd_set ?_ _ _ hrb3)
    · repeat (first | exact G | refine only_set ?_ _ _ (by simp; omega) | refine only_set ?_ _ _ (by simp))
end Go.Proofs.Ytjamcfnclnpdkaa
