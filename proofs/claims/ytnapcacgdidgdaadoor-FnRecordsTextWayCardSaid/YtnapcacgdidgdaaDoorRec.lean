/- Records: the data, and the contracts of the functions on them that read alone. -/
import Derived.Test.YtnapcacgdidgdaaDoorLeaf
namespace Go.Proofs.YtnapcacgdidgdaaDoor
open Go.RowKit

structure Rec where
  t : Int
  w : Int
  b : Int
instance : DecidableEq Rec := fun a b => decidable_of_iff (a.t = b.t ∧ a.w = b.w ∧ a.b = b.b) (by cases a; cases b; simp)
def recB (r : Rec) : Bool := decide (0 ≤ r.t ∧ r.t ≤ 9999 ∧ 0 ≤ r.w ∧ r.w ≤ 1 ∧ 0 ≤ r.b ∧ r.b ≤ 255)
def recCells (r : Rec) : List Value := [.int .i64 r.t, .int .i64 r.w, .int .i64 r.b]
def recV (r : Rec) : Value := .agg #[.int .i64 r.t, .int .i64 r.w, .int .i64 r.b]
theorem recCells_length (r : Rec) : (recCells r).length = 3 := rfl
def Recs (w : World) (ao : Option Addr) (rs : List Rec) : Prop := Cells w ao (rs.flatMap recCells)
theorem Recs.below {w w' : World} {ao : Option Addr} {rs : List Rec} (h : Recs w ao rs) (hb : Below w.heap.size w w') : Recs w' ao rs := Cells.below h hb
theorem Recs.keep {w w' : World} {ao : Option Addr} {rs : List Rec} (h : Recs w ao rs) (hb : Keeps w w') : Recs w' ao rs := Cells.keep h hb
theorem Recs.at_ {w : World} {ao : Option Addr} {rs : List Rec} (h : Recs w ao rs) {k : Nat} (hk : k < rs.length) :
    ∃ b off r, ao = some ⟨b, off, none⟩ ∧ rs[k]? = some r ∧ b < w.heap.size ∧ w.cell? ⟨b, off + k * 3, none⟩ = some (.int .i64 r.t) ∧ w.cell? ⟨b, off + k * 3 + 1, none⟩ = some (.int .i64 r.w) ∧ w.cell? ⟨b, off + k * 3 + 2, none⟩ = some (.int .i64 r.b) := by
  have hx : rs[k]? = some rs[k] := List.getElem?_eq_getElem hk
  have f := fun j (hj : j < 3) => flatN recCells 3 recCells_length rs k _ j hx hj
  rcases h with h | ⟨b, off, h, hc⟩
  · have := f 0 (by omega); rw [h] at this; simp [recCells] at this
  · have c0 := hc _ _ (f 0 (by omega))
    have c1 := hc _ _ (f 1 (by omega))
    have c2 := hc _ _ (f 2 (by omega))
    exact ⟨b, off, rs[k], h, hx, World.block_lt_of_cell? w _ c0, c0, c1, c2⟩
theorem rec_info : (Tryd.prog.info? 29).map (fun i => (i.zero, i.size, i.bytes)) = some (some (.agg #[.int .i64 0, .int .i64 0, .int .i64 0]), 3, 24) := by kernel_rfl
def OwnR (w : World) (base : Nat) (ao : Option Addr) (c : Nat) (rs : List Rec) : Prop := w.ownsRow base 29 3 (.slice ao rs.length c) rs.length (rs.flatMap recCells)
theorem OwnR.recs {w : World} {base c : Nat} {ao : Option Addr} {rs : List Rec} (h : OwnR w base ao c rs) : Recs w ao rs := own_cells h
theorem OwnR.below {w w' : World} {base c : Nat} {ao : Option Addr} {rs : List Rec} (h : OwnR w base ao c rs) (hb : Below w.heap.size w w') : OwnR w' base ao c rs := own_below h hb
theorem OwnR.base {w : World} {base base' c : Nat} {ao : Option Addr} {rs : List Rec} (h : OwnR w base ao c rs) (hb : base' ≤ base) : OwnR w base' ao c rs := own_base h hb

/-- The record at place k is valid, and no earlier than the one before. -/
def recAt (rs : List Rec) (k : Nat) : Prop := ∀ r, rs[k]? = some r → recB r = true ∧ ∀ q, 0 < k → rs[k - 1]? = some q → q.t ≤ r.t
def RecsOk (rs : List Rec) : Prop := rs.length ≤ 30 ∧ ∀ k, k < rs.length → recAt rs k
open Classical in
noncomputable def recsB (rs : List Rec) : Bool := decide (RecsOk rs)
theorem recsB_no {rs : List Rec} (h : ¬ RecsOk rs) : recsB rs = false := by simp [recsB, h]
theorem recsB_yes {rs : List Rec} (h : RecsOk rs) : recsB rs = true := by simp [recsB, h]
theorem recsB_iff {rs : List Rec} : recsB rs = true ↔ RecsOk rs := by simp [recsB]
theorem recAt_yes {rs : List Rec} {k : Nat} {r : Rec} (hr : rs[k]? = some r) (hv : recB r = true) (h : ∀ q, 0 < k → rs[k - 1]? = some q → q.t ≤ r.t) : recAt rs k := by
  intro r' hr'
  rw [hr] at hr'
  obtain rfl := Option.some.inj hr'
  exact ⟨hv, h⟩

theorem recordValid_any (t x b : Int) (w : World) : Calls Tryd.prog 26 #[.agg #[.int .i64 t, .int .i64 x, .int .i64 b]] w fun e w' => e = .returned (.bool (recB ⟨t, x, b⟩)) ∧ Below w.heap.size w w' := by
  go_enter Tryd.func26, Tryd.ntmps26
  go_wp2_with (go_at_call 29; refine (isByte_any _ _).mono ?_; rintro e w' ⟨rfl, rfl⟩)
  all_goals (go_ret; exact ⟨ret_bool (by rw [Bool.eq_iff_iff]; simp [recB, byteB] <;> omega), (Below.refl _ _).alloc (Nat.le_refl _) _⟩)

set_option maxHeartbeats 400000 in
theorem implRecordsValid_any (ao : Option Addr) (rs : List Rec) (c : Nat) (w : World) (hx : Recs w ao rs) (lx : rs.length ≤ 4611686018427387904) :
    Calls Tryd.prog 15 #[.slice ao rs.length c] w fun e w' => e = .returned (.bool (recsB rs)) ∧ Below w.heap.size w w' := by
  by_cases hl : rs.length ≤ 30
  · go_enter Tryd.func15, Tryd.ntmps15
    go_wp2
    go_loopw [10] (fun i wr => ∃ k : Nat, k ≤ rs.length ∧ i = .int .i64 k ∧ Below w.heap.size w wr ∧ ∀ j, j < k → recAt rs j) (fun i _ => rs.length - (intOf i).toNat)
    case atStart => exact ⟨0, Nat.zero_le _, rfl, Below.refl _ _, fun j hj => absurd hj (by omega)⟩
    case round =>
      obtain ⟨k, hk, rfl, hb, hall⟩ := hrel
      have HA := Lib.hid hall
      clear hall
      by_cases hlt : k < rs.length
      · obtain ⟨b, off, r, rfl, er, hbl, c0, c1, c2⟩ := (hx.below hb).at_ hlt
        obtain ⟨t, x, y⟩ := r
        have ER := Lib.hid er
        clear er
        dsimp only at c0 c1 c2
        go_wp2
        refine name_wp fun W hW => ?_
        have hbW : Below w.heap.size w W := by rw [hW]; exact hb.alloc hb.size _
        have p0 : ∀ p : After W, p.w.cell? ⟨wr.heap.size, 0, none⟩ = some (.int .i64 t) := fun p => p.cell (by rw [hW]; simp)
        have p1 : ∀ p : After W, p.w.cell? ⟨wr.heap.size, 1, none⟩ = some (.int .i64 x) := fun p => p.cell (by rw [hW]; simp)
        have p2 : ∀ p : After W, p.w.cell? ⟨wr.heap.size, 2, none⟩ = some (.int .i64 y) := fun p => p.cell (by rw [hW]; simp)
        have HW := Lib.hid hW
        clear c0 c1 c2 hW
        cases hv : recB ⟨t, x, y⟩
        · have HC : Hid (∀ w, Calls Tryd.prog 26 #[.agg #[.int .i64 t, .int .i64 x, .int .i64 y]] w fun e w' => e = .returned (.bool false) ∧ Below w.heap.size w w') := Lib.hid fun w => by have := recordValid_any t x y w; rwa [hv] at this
          refine wp_region_after (by kernel_rfl) (by kernel_rfl) ?_
          repeat (go_big_quiet_step ((go_at_call 26; exact After.call (HC.out _))))
          refine wpQuiet_nil ?_
          intro p
          go_wp2
          go_ret
          refine ⟨ret_bool (recsB_no fun h => ?_).symm, hbW.trans (p.below.mono hbW.size)⟩
          have := (h.2 k hlt _ ER.out).1
          rw [hv] at this; cases this
        · have HC : Hid (∀ w, Calls Tryd.prog 26 #[.agg #[.int .i64 t, .int .i64 x, .int .i64 y]] w fun e w' => e = .returned (.bool true) ∧ Below w.heap.size w w') := Lib.hid fun w => by have := recordValid_any t x y w; rwa [hv] at this
          have HV := Lib.hid hv
          clear hv
          by_cases hk0 : k = 0
          · subst hk0
            refine wp_region_after (by kernel_rfl) (by kernel_rfl) ?_
            repeat (go_big_quiet_step ((go_at_call 26; exact After.call (HC.out _))))
            refine wpQuiet_nil ?_
            intro p
            go_wp2
            go_roundw
            case rel => exact ⟨1, by omega, by go_num, hbW.trans (p.below.mono hbW.size), all_succ HA.out (recAt_yes ER.out HV.out fun q h => absurd h (by omega))⟩
            case measure => simp [intOf]; omega
          · have hk1 : 0 < k := by omega
            clear hk0
            obtain ⟨b', off', q, e', eq, hbl', d0, _, _⟩ := (hx.below hb).at_ (show k - 1 < rs.length by omega)
            obtain ⟨rfl, rfl⟩ : b = b' ∧ off = off' := by simpa using e'
            have q0 : ∀ p : After W, p.w.cell? ⟨b, off + (k - 1) * 3, none⟩ = some (.int .i64 q.t) := fun p => p.cell (by rw [HW.out]; exact (World.cell?_alloc_lt _ _ _ hbl').trans d0)
            have EQ := Lib.hid eq
            clear eq
            by_cases hqt : t < q.t
            · refine wp_region_after (by kernel_rfl) (by kernel_rfl) ?_
              repeat (go_big_quiet_step ((go_at_call 26; exact After.call (HC.out _))))
              refine wpQuiet_nil ?_
              intro p
              go_wp2
              go_ret
              refine ⟨ret_bool (recsB_no fun h => ?_).symm, hbW.trans (p.below.mono hbW.size)⟩
              have := (h.2 k hlt _ ER.out).2 q (by omega) EQ.out
              dsimp only at this; omega
            · refine wp_region_after (by kernel_rfl) (by kernel_rfl) ?_
              repeat (go_big_quiet_step ((go_at_call 26; exact After.call (HC.out _))))
              refine wpQuiet_nil ?_
              intro p
              go_wp2
              go_roundw
              case rel => 
                exact ⟨k + 1, by omega, by go_num, hbW.trans (p.below.mono hbW.size), all_succ HA.out (recAt_yes ER.out HV.out fun q' _ h => by rw [EQ.out] at h; obtain rfl := Option.some.inj h; dsimp only; omega)⟩
              case measure => simp [intOf]; omega
      · go_wp2
        go_ret
        refine ⟨ret_bool (recsB_yes ⟨hl, fun j hj => HA.out j (by omega)⟩).symm, hb⟩
  · go_enter Tryd.func15, Tryd.ntmps15
    go_wp2
    go_ret
    exact ⟨ret_bool (recsB_no fun h => hl h.1).symm, Below.refl _ _⟩

theorem rec_of {t x y : Int} (v0 : inB t 0 9999 = true) (v1 : inB x 0 1 = true) (v2 : inB y 0 255 = true) : recB ⟨t, x, y⟩ = true := by
  simp [inB, recB] at *; omega
theorem recAt_no_of {rs : List Rec} {k : Nat} {r : Rec} (hr : rs[k]? = some r) (hv : recB r = false) : ¬ recAt rs k := fun h => by have := (h r hr).1; rw [hv] at this; cases this
set_option maxHeartbeats 1000000 in
theorem specRecordsValid_any (ao : Option Addr) (rs : List Rec) (c : Nat) (w : World) (hx : Recs w ao rs) (lx : rs.length ≤ 4611686018427387904) :
    Calls Tryd.prog 9 #[.slice ao rs.length c] w fun e w' => e = .returned (.bool (recsB rs)) ∧ Below w.heap.size w w' := by
  go_enter Tryd.func9, Tryd.ntmps9
  go_wp2
  go_loopw [3] (fun i wr => ∃ k : Nat, k ≤ rs.length ∧ i = .int .i64 k ∧ Below w.heap.size w wr ∧ ∀ j, j < k → recAt rs j) (fun i _ => rs.length - (intOf i).toNat)
  case atStart => exact ⟨0, Nat.zero_le _, rfl, Below.refl _ _, fun j hj => absurd hj (by omega)⟩
  case round =>
    obtain ⟨k, hk, rfl, hb, hall⟩ := hrel
    have HA := Lib.hid hall
    clear hall
    by_cases hlt : k < rs.length
    · obtain ⟨b, off, r, rfl, er, hbl, c0, c1, c2⟩ := (hx.below hb).at_ hlt
      obtain ⟨t, x, y⟩ := r
      have ER := Lib.hid er
      clear er
      dsimp only at c0 c1 c2
      go_wp2
      refine name_wp fun W hW => ?_
      have hbW : Below w.heap.size w W := by rw [hW]; exact hb.alloc hb.size _
      have p0 : ∀ p : After W, p.w.cell? ⟨wr.heap.size, 0, none⟩ = some (.int .i64 t) := fun p => p.cell (by rw [hW]; simp)
      have p1 : ∀ p : After W, p.w.cell? ⟨wr.heap.size, 1, none⟩ = some (.int .i64 x) := fun p => p.cell (by rw [hW]; simp)
      have p2 : ∀ p : After W, p.w.cell? ⟨wr.heap.size, 2, none⟩ = some (.int .i64 y) := fun p => p.cell (by rw [hW]; simp)
      have HW := Lib.hid hW
      clear c0 c1 c2 hW
      by_cases v0 : inB t 0 9999 = true
      case neg =>
        simp only [Bool.not_eq_true] at v0
        refine wp_region_after (by kernel_rfl) (by kernel_rfl) ?_
        repeat (go_big_quiet_step ((go_at_call 22; exact After.call (calls_below (l6In_any _ _ _ _)))))
        refine wpQuiet_nil ?_
        intro p
        go_wp2
        go_ret
        exact ⟨ret_bool (recsB_no fun h => recAt_no_of ER.out (by have := v0; simp [recB, inB] at this ⊢; omega) (h.2 k hlt)).symm, hbW.trans (p.below.mono hbW.size)⟩
      by_cases v1 : inB x 0 1 = true
      case neg =>
        simp only [Bool.not_eq_true] at v1
        refine wp_region_after (by kernel_rfl) (by kernel_rfl) ?_
        repeat (go_big_quiet_step ((go_at_call 22; exact After.call (calls_below (l6In_any _ _ _ _)))))
        refine wpQuiet_nil ?_
        intro p
        go_wp2
        go_ret
        exact ⟨ret_bool (recsB_no fun h => recAt_no_of ER.out (by have := v1; simp [recB, inB] at this ⊢; omega) (h.2 k hlt)).symm, hbW.trans (p.below.mono hbW.size)⟩
      by_cases v2 : inB y 0 255 = true
      case neg =>
        simp only [Bool.not_eq_true] at v2
        refine wp_region_after (by kernel_rfl) (by kernel_rfl) ?_
        repeat (go_big_quiet_step ((go_at_call 22; exact After.call (calls_below (l6In_any _ _ _ _)))))
        refine wpQuiet_nil ?_
        intro p
        go_wp2
        go_ret
        exact ⟨ret_bool (recsB_no fun h => recAt_no_of ER.out (by have := v2; simp [recB, inB] at this ⊢; omega) (h.2 k hlt)).symm, hbW.trans (p.below.mono hbW.size)⟩
      have HV : Hid (recB ⟨t, x, y⟩ = true) := rec_of v0 v1 v2
      by_cases hk0 : k = 0
      · subst hk0
        refine wp_region_after (by kernel_rfl) (by kernel_rfl) ?_
        repeat (go_big_quiet_step ((go_at_call 22; exact After.call (calls_below (l6In_any _ _ _ _)))))
        refine wpQuiet_nil ?_
        intro p
        go_wp2
        go_roundw
        case rel => exact ⟨1, by omega, by go_num, hbW.trans (p.below.mono hbW.size), all_succ HA.out (recAt_yes ER.out HV.out fun q h => absurd h (by omega))⟩
        case measure => simp [intOf]; omega
      · have hk1 : 0 < k := by omega
        clear hk0
        obtain ⟨b', off', q, e', eq, hbl', d0, _, _⟩ := (hx.below hb).at_ (show k - 1 < rs.length by omega)
        obtain ⟨rfl, rfl⟩ : b = b' ∧ off = off' := by simpa using e'
        have q0 : ∀ p : After W, p.w.cell? ⟨b, off + (k - 1) * 3, none⟩ = some (.int .i64 q.t) := fun p => p.cell (by rw [HW.out]; exact (World.cell?_alloc_lt _ _ _ hbl').trans d0)
        have EQ := Lib.hid eq
        clear eq
        by_cases hqt : t < q.t
        · refine wp_region_after (by kernel_rfl) (by kernel_rfl) ?_
          repeat (go_big_quiet_step ((go_at_call 22; exact After.call (calls_below (l6In_any _ _ _ _)))))
          refine wpQuiet_nil ?_
          intro p
          go_wp2
          go_ret
          refine ⟨ret_bool (recsB_no fun h => ?_).symm, hbW.trans (p.below.mono hbW.size)⟩
          have := (h.2 k hlt _ ER.out).2 q (by omega) EQ.out
          dsimp only at this; omega
        · refine wp_region_after (by kernel_rfl) (by kernel_rfl) ?_
          repeat (go_big_quiet_step ((go_at_call 22; exact After.call (calls_below (l6In_any _ _ _ _)))))
          refine wpQuiet_nil ?_
          intro p
          go_wp2
          go_roundw
          case rel => exact ⟨k + 1, by omega, by go_num, hbW.trans (p.below.mono hbW.size), all_succ HA.out (recAt_yes ER.out HV.out fun q' _ h => by rw [EQ.out] at h; obtain rfl := Option.some.inj h; dsimp only; omega)⟩
          case measure => simp [intOf]; omega
    · by_cases hl : rs.length ≤ 30
      · go_wp2
        go_ret
        refine ⟨ret_bool ?_, hb⟩
        rw [recsB_yes ⟨hl, fun j hj => HA.out j (by omega)⟩]
        exact decide_eq_true (by omega)
      · go_wp2
        go_ret
        refine ⟨ret_bool ?_, hb⟩
        rw [recsB_no fun h => hl h.1]
        exact decide_eq_false (by omega)
end Go.Proofs.YtnapcacgdidgdaaDoor
