/- How the arguments of a statement read: as lists of cells. -/
import Derived.Test.YtnapcacgdidgdaaDoorLeaf
import Derived.ProofKit
import Derived.OpenShut
import Derived.ShutString
import Derived.ChangeOld
import Derived.Deep.Slices
namespace Go.Proofs.YtnapcacgdidgdaaDoor
open Go.RowKit Go.Deep

theorem own_knob : ownKnob Tryd.prog.godebug = none := by kernel_rfl
theorem laid_out : laidOutB Tryd.prog = true := by kernel_rfl

section
variable {H : Type} {enc : TypeId × Value → H} {P : Program} {w : World} {base : Nat} {spare : Nat → Bool} {held : Bool}

theorem choose_list {α : Type} {R : Nat → α → Prop} : ∀ n, (∀ i, i < n → ∃ a, R i a) → ∃ els : List α, els.length = n ∧ ∀ i a, els[i]? = some a → R i a
  | 0, _ => ⟨[], rfl, fun i a h => by simp at h⟩
  | n + 1, h => by
    obtain ⟨els, hl, hr⟩ := choose_list n fun i hi => h i (by omega)
    obtain ⟨a, ha⟩ := h n (by omega)
    refine ⟨els ++ [a], by simp [hl], fun i b hb => ?_⟩
    rcases Nat.lt_trichotomy i n with hi | hi | hi
    · rw [List.getElem?_append_left (by omega)] at hb; exact hr i b hb
    · subst hi
      rw [List.getElem?_append_right (by omega), hl, Nat.sub_self] at hb
      simp at hb; exact hb ▸ ha
    · rw [List.getElem?_eq_none (by simp [hl]; omega)] at hb; cases hb

theorem rd_slice {α : Type} {f : α → List Value} {k : Nat} (hf : ∀ a, (f a).length = k) (hk : 0 < k) {t e : TypeId} {fuel : Nat} {cs : List Value} {x : DataW H × List MemPlace} (ht : P.underlying t = some (.slice e)) (hC : P.cellsOf e = k)
    (hQ : ∀ n cs y, DataW.trod enc P w base spare held n e cs = some y → ∃ a, cs = f a) (h : DataW.trod enc P w base spare held fuel t cs = some x) :
    ∃ (ao : Option Addr) (cap : Nat) (els : List α), cs = [.slice ao els.length cap] ∧ els.length ≤ cap ∧ cap ≤ maxLen ∧ Cells w ao (els.flatMap f) := by
  rcases open_slice ht h with ⟨rfl, _⟩ | ⟨a, len, cap, m, n, D, Pl, rfl, _, hl, hm, hmm, _, hi⟩
  · exact ⟨none, 0, [], rfl, Nat.le_refl _, Nat.zero_le _, .inl rfl⟩
  · have hle : len ≤ m := by rw [hmm]; split <;> omega
    obtain ⟨els, hal, har⟩ := choose_list (R := fun i a' => w.cells? base (a.add (i * k)) k = some (f a')) len fun i hlt => by
      obtain ⟨cs', hc, ht'⟩ := hi i (by omega)
      obtain ⟨a', rfl⟩ := hQ _ _ _ ht'
      rw [hC] at hc
      exact ⟨a', hc⟩
    refine ⟨some a, cap, els, by rw [hal], by omega, hm, ?_⟩
    by_cases h0 : len = 0
    · left
      have : els = [] := List.eq_nil_of_length_eq_zero (by omega)
      subst this; rfl
    · have hsp : a.spot = none := by
        have h1 := har 0 els[0] (List.getElem?_eq_getElem (by omega))
        obtain ⟨_, _, hat⟩ := World.cells?_some h1
        have h2 := hat 0 hk
        rw [Nat.zero_mul] at h2
        have e0 : (a.add 0).add 0 = a := by simp [Addr.add]
        rw [e0, List.getElem?_eq_getElem (by rw [hf]; exact hk)] at h2
        exact World.cell?_spot h2
      obtain ⟨b, off, sp⟩ := a
      dsimp only at hsp
      subst hsp
      refine .inr ⟨b, off, rfl, fun j u hu => ?_⟩
      have hj : j < els.length * k := by
        have := (List.getElem?_eq_some_iff.1 hu).1
        rwa [flatN_length f k hf] at this
      have hd : j / k < els.length := by rw [Nat.div_lt_iff_lt_mul hk]; exact hj
      have hr : j % k < k := Nat.mod_lt _ hk
      have hx : els[j / k]? = some els[j / k] := List.getElem?_eq_getElem hd
      have e1 : j / k * k + j % k = j := Nat.div_add_mod' j k
      have h2 := flatN f k hf els (j / k) _ (j % k) hx hr
      rw [e1, hu] at h2
      obtain ⟨_, _, hat⟩ := World.cells?_some (har _ _ hx)
      have h3 := hat (j % k) hr
      rw [← h2, Addr.add_lit, Addr.add_lit] at h3
      rw [← h3]
      congr 2
      omega

theorem rd_int {k : IntKind} {t : TypeId} {fuel : Nat} {cs : List Value} {x : DataW H × List MemPlace} (ht : P.underlying t = some (.int k)) (h : DataW.trod enc P w base spare held fuel t cs = some x) : ∃ n, cs = [.int k n] ∧ (Lit.int k n).wf = true := by
  obtain ⟨n, h1, _, h2⟩ := DataW.trod_int ht h
  exact ⟨n, h1, h2⟩

theorem rd_ints {t e : TypeId} {fuel : Nat} {cs : List Value} {x : DataW H × List MemPlace} (ht : P.underlying t = some (.slice e)) (he : P.underlying e = some (.int .i64)) (hC : P.cellsOf e = 1) (h : DataW.trod enc P w base spare held fuel t cs = some x) :
    ∃ (ao : Option Addr) (cap : Nat) (xs : List Int), cs = [.slice ao xs.length cap] ∧ xs.length ≤ cap ∧ cap ≤ maxLen ∧ Ints w ao xs := by
  obtain ⟨ao, cap, els, h1, h2, h3, h4⟩ := rd_slice (α := Int) (f := fun n => [.int .i64 n]) (k := 1) (fun _ => rfl) (by decide) ht hC (fun n cs y hy => by
    obtain ⟨m, hm, _⟩ := rd_int he hy
    exact ⟨m, hm⟩) h
  refine ⟨ao, cap, els, h1, h2, h3, ?_⟩
  have : els.flatMap (fun n => [Value.int .i64 n]) = els.map (Value.int .i64) := by
    clear h1 h2 h4
    induction els with
    | nil => rfl
    | cons a l ih => rw [List.flatMap_cons, ih]; rfl
  rw [this] at h4
  exact h4

/-- A field's own reading, out of a struct's. -/
theorem rd_fld {fs : Array Field} {n : Nat} {cs : List Value} {xs : List (DataW H × List MemPlace)} (hg : ∀ (i : Nat) (f : Field), fs[i]? = some f → DataW.trod enc P w base spare held n f.type ((cs.drop f.offset).take (P.cellsOf f.type)) = xs[i]?)
    (hx : xs.length = fs.size) (i : Nat) (f : Field) (hf : fs[i]? = some f) (off k t : Nat) (ho : f.offset = off) (ht : f.type = t) (hk : P.cellsOf t = k) : ∃ y, DataW.trod enc P w base spare held n t ((cs.drop off).take k) = some y := by
  have h := hg i f hf
  rw [ho, ht, hk] at h
  have hi : i < xs.length := by rw [hx]; exact (Array.getElem?_eq_some_iff.1 hf).1
  rw [List.getElem?_eq_getElem hi] at h
  exact ⟨_, h⟩
theorem bd_i64 {n : Int} (h : (Lit.int .i64 n).wf = true) : -9223372036854775808 ≤ n ∧ n ≤ 9223372036854775807 := bounds_i64 h
end
end Go.Proofs.YtnapcacgdidgdaaDoor
