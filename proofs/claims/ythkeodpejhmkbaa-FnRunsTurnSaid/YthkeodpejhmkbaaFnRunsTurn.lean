/- FnRunsTurn: for every code, rows have no kind. No condition. -/
import Derived.Test.YthkeodpejhmkbaaRunsLaw
import Derived.Test.YthkeodpejhmkbaaLine5
import Derived.Test.YthkeodpejhmkbaaSaidB
namespace Go.Proofs.Ythkeodpejhmkbaa
open Go.ChangeShapes Go.WideShapes Go.ChangeAt Go.RowKit

set_option maxHeartbeats 1000000 in
set_option maxRecDepth 100000 in
theorem FnRunsTurn_walk (ao : Option Addr) (bs : List Int) (c : Nat) (w : World) (h : Bytes w ao bs) (hc : bs.length ≤ c) (_hm : c ≤ maxLen) :
    Calls Try.prog 8 #[.slice ao bs.length c] w fun e w' => e = .returned (.bool true) ∧ Below w.heap.size w w' := by
  unfold maxLen at _hm
  by_cases hn : (bs.length : Int) ≤ 1048576
  case neg =>
    have hn' : (1048576 : Int) < (bs.length : Int) := by omega
    go_enter Try.func8, Try.ntmps8
    go_wp2
    go_ret
    exact ⟨rfl, Below.refl _ _⟩
  go_enter Try.func8, Try.ntmps8
  go_wp2_with fail
  refine (drawRunsOf_any ao bs c w h hc (by omega)).mono ?_
  rintro e w1 ⟨a1, xs, c1, rfl, lx5, o1, b1⟩
  have i1 := o1.ints
  clear o1
  go_wp2_with fail
  refine (implRunsOf_any a1 xs c1 w1 i1 (by omega)).mono ?_
  rintro e w2 ⟨a2, c2, rfl, o2, b2⟩
  have B2 := below_join b1 b2
  have i1 := i1.below b2
  go_wp2_with fail
  refine (specRunsOf_any a1 xs c1 w2 i1 (by omega)).mono ?_
  rintro e w3 ⟨a3, c3, rfl, o3, b3⟩
  have B3 := below_join B2 b3
  have i1 := i1.below b3
  have i2 := o2.ints.below b3
  have i3 := o3.ints
  have hbd := runsL_bd xs
  have HR : Hid (runsL xs ≠ [] → sampB xs = true ∧ runsL xs = runs xs) := Lib.hid (fun h => by
    cases hs : sampB xs
    · exact absurd (by simp [runsL, hs]) h
    · exact ⟨rfl, by simp [runsL, hs]⟩)
  have HT := Lib.hid (fun hs : sampB xs = true => runsL_turn hs)
  obtain ⟨L, hL⟩ : ∃ L, L = runsL xs := ⟨_, rfl⟩
  rw [← hL] at i2 i3 hbd HR HT
  rw [← hL]
  have hbl := hbd.1
  have HBD := Lib.hid hbd.2
  clear o2 o3 b1 b2 b3 B2 hL hbd
  go_wp2_with fail
  refine (sameInts_below a2 a3 L L c2 c3 w3 i2 i3 (by omega) (by omega)).mono ?_
  rintro e w4 ⟨rfl, b4⟩
  have B4 := below_join B3 b4
  have i1 := i1.below b4
  have i2 := i2.below b4
  have i3 := i3.below b4
  clear B3 b4
  by_cases hz : L.length = 0
  · have hzI : (L.length : Int) = 0 := by omega
    have HZ := Lib.hid hz
    clear hz
    go_wp2_with fail
    refine (sameInts_below a2 a3 L L c2 c3 w4 i2 i3 (by omega) (by omega)).mono ?_
    rintro e w5 ⟨rfl, b5⟩
    go_wp2
    go_ret
    exact ⟨by simp, below_join B4 b5⟩
  have hzb : ((L.length : Int) == 0) = false := beq_eq_false_iff_ne.2 (by omega)
  have hne : L ≠ [] := fun e => hz (by rw [e]; rfl)
  have hR := HR.out hne
  have HS := Lib.hid hR.1
  have HE := Lib.hid hR.2
  clear hz hne hR HR i3
  go_wp2_with fail
  refine name_wp fun W hW => ?_
  have B5 : Below w.heap.size w W := by rw [hW]; exact B4.alloc B4.size _
  have b5 : Below w4.heap.size w4 W := by rw [hW]; exact (Below.refl _ _).alloc (Nat.le_refl _) _
  have o5 : OwnI W w4.heap.size (some ⟨w4.heap.size, 0, none⟩) 0 [] := by rw [hW]; exact own_made_at w4 #[] _ _ 0 _ _ rfl (Nat.le_refl _) (by simp) rfl
  clear hW
  go_loopw [6, 7] (fun v i wr => ∃ (k : Nat) (M : List Int) (a : Option Addr) (cm : Nat), k ≤ xs.length ∧ i = .int .i64 k ∧ v = .slice a M.length cm ∧ M = (xs.take k).map (1 - ·) ∧ M.length = k ∧ OwnI wr w4.heap.size a cm M ∧ Below w4.heap.size w4 wr) (fun _ i _ => xs.length - (intOf i).toNat)
  case atStart => exact ⟨0, [], _, 0, Nat.zero_le _, rfl, rfl, by simp, rfl, o5, b5⟩
  case round =>
    clear o5 b5
    obtain ⟨k, M, a, cm, hk, rfl, rfl, hM, hMl, o, hb⟩ := hrel
    have HM := Lib.hid hM
    have HMl := Lib.hid hMl
    have hml : M.length ≤ 500 := by omega
    clear hM hMl
    by_cases hlt : k < xs.length
    · obtain ⟨b, off, x, rfl, ex, x0⟩ := (i1.below hb).at_ hlt
      have hx := sampB_bit HS.out ex
      have hx0 := hx.1
      have hx1 := hx.2
      have EX := Lib.hid ex
      clear ex hx
      go_wp2_with (
        at_builtin
        refine name_list fun W hW => ?_
        have hoW : OwnI W w4.heap.size a cm M := by rw [hW]; exact World.ownsRow.alloc o _
        have hbW : Below w4.heap.size w4 W := by rw [hW]; exact hb.alloc hb.size _
        have hcW : Cells W (some ⟨wr.heap.size, 0, none⟩) [.int .i64 (1 - x)] := by rw [hW]; exact cells_new _ #[.int .i64 (1 - x)] _ rfl
        clear hW
        refine wpList_append_row W rfl _ _ _ rfl w4.heap.size 3 _ 1 8 Try.underlying22 int_info rfl (by decide) a M.length cm _ (by rfl) hoW (some ⟨wr.heap.size, 0, none⟩) 1 1 [.int .i64 (1 - x)] (by rfl) hcW rfl (by simp [Value.oneCell']) (by simp) (by simp only [maxLen]; omega) (by omega) hbW.size ?_
        intro a2 c2 w2 ho2 hg2
        have hb2 := below_append hbW hoW hg2 hbW.size
        have o2 := OwnI.snoc ho2
        clear hoW ho2 hg2 hcW hbW)
      go_roundw
      case rel => exact ⟨k + 1, M ++ [1 - x], a2, c2, by omega, by go_num, by simp, by rw [take_succ_of EX.out, List.map_append, ← HM.out]; rfl, by rw [List.length_append, HMl.out]; rfl, o2, hb2⟩
      case measure => simp [intOf]; omega
    · have he : k = xs.length := by omega
      have hMe : M = xs.map (1 - ·) := by rw [HM.out, he, List.take_length]
      have hRI := fun v h => implRunsOf_any a M cm v h (by omega)
      have hRL : runsL M = L := by rw [hMe]; exact HT.out HS.out
      rw [hRL] at hRI
      have HRI := Lib.hid hRI
      clear he hMe hRL hRI
      go_wp2_with fail
      refine (HRI.out wr o.ints).mono ?_
      rintro e w6 ⟨a6, c6, rfl, o6, b6⟩
      have B6 := hb.trans (b6.mono hb.size)
      go_wp2_with fail
      refine (sameInts_below a6 a2 L L c6 c2 w6 o6.ints (i2.below B6) (by omega) (by omega)).mono ?_
      rintro e w7 ⟨rfl, b7⟩
      go_wp2
      go_ret
      exact ⟨by simp, (B4.trans (B6.mono B4.size)).trans (b7.mono (Nat.le_trans B4.size B6.size))⟩

set_option linter.unusedVariables false in
set_option maxRecDepth 100000 in
theorem FnRunsTurn_lifted (os : Os) (started : os.Started) (H : Type) (enc : TypeId × Value → H) :
    ReturnsInHanded {} Try.checked os 8 .any (Rows.fnRunsTurnSpec.pre6 enc Try.prog Try.f8 Rows.fnRunsTurnRow.domain false) (Rows.fnRunsTurnSpec.post enc Try.prog Try.f8 false true false false) := by
  refine returnsInHanded_of_change (C := Try.checked) own_knob started (by kernel_rfl) Try.func8
    (ChangeSpec.witness6 (enc := enc) (C := Try.checked) false ⟨#[], #[.slice none 0 0], []⟩ 8 (by kernel_rfl) (by kernel_rfl) (by kernel_rfl) (by kernel_rfl)) ?_
  intro W base args ds gs before hval0 hW hcnd _
  have hval : ∀ (j : Nat) t v, Try.f8.params[j]? = some t → args[j]? = some v → Value.okWide Try.prog W .any base t v := hval0
  have hW' := hW
  obtain ⟨p, q, hA0, hV, rfl, hfz, hnd⟩ := hW
  have hA : DataW.TrodAll enc Try.prog W 0 (fun _ => true) true Try.f8.params.toList args.toList ds p := hA0
  rw [Try.params8] at hA hval
  obtain ⟨v0, vs0, d0, ds0, p0, q0, hargs, rfl, rfl, h0, r0⟩ := trodAll_cons hA
  obtain ⟨rfl, rfl, rfl⟩ := trodAll_nil r0
  obtain rfl : args = #[v0] := by cases args; simp_all
  obtain ⟨rfl, rfl⟩ := trodVars_none hV
  have k0 := h0
  have lt0 : ∀ x ∈ p0, x.block < W.heap.size := by obtain ⟨m, hm⟩ := k0; exact DataW.trod_lt m _ _ _ hm
  obtain ⟨a0, len0, cap0, rfl⟩ := okWide_slice Try.underlying29 (hval 0 29 v0 rfl rfl)
  obtain ⟨z0, rfl, lc0, lm0, rz0⟩ : ∃ z : List Int, len0 = z.length ∧ z.length ≤ cap0 ∧ cap0 ≤ maxLen ∧ Bytes W a0 z := by
    obtain ⟨fuel, hf⟩ := h0
    obtain ⟨ao, cap, z, e, h1, h2, h3⟩ := rd_bytes hf
    simp [Value.cells] at e
    obtain ⟨rfl, rfl, rfl⟩ := e
    exact ⟨z, rfl, h1, h2, h3⟩
  have lb0 : z0.length ≤ cap0 := lc0
  clear hA0 hval0
  refine (FnRunsTurn_walk a0 z0 cap0 W rz0 lc0 lm0).mono fun e W' ⟨he, bel⟩ => ?_
  subst he
  exact ⟨_, rfl, _, _, _, [], _, [], hW', trodAll_mk1 (shut_bool Try.underlying4 _), (trodAll_cons_mk (Below.trod laid_out (by kernel_rfl) (of_decide_eq_true (by kernel_rfl)) k0 bel lt0) trodAll_mk0), rfl, bel.frame _, fun h => by cases h⟩

theorem FnRunsTurn_holds : Rows.FnRunsTurnSaid :=
  OpenClaim.holds_of_wide 8 Try.f8 rfl rfl rfl rfl rfl rfl rfl ⟨rfl, rfl, rfl, rfl, rfl⟩ rfl rfl rfl rfl rfl (by kernel_rfl) Try.func8 (by kernel_rfl)
    (of_decide_eq_true (by kernel_rfl)) (by unfold Func.isWrapper; first | (rw [if_pos (by decide +kernel)]; kernel_rfl) | (rw [if_neg (by decide +kernel)]; exact ⟨rfl, rfl⟩))
    (fun os started H enc _ => FnRunsTurn_lifted os started H enc)
end Go.Proofs.Ythkeodpejhmkbaa
