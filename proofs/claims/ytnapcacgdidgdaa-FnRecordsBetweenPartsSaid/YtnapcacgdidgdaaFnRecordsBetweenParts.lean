/- FnRecordsBetweenParts: for every code and every further code, times can be divided. No condition. -/
import Derived.Test.YtnapcacgdidgdaaTree3
import Derived.Test.YtnapcacgdidgdaaSaidB
namespace Go.Proofs.Ytnapcacgdidgdaa
open Go.ChangeShapes Go.WideShapes Go.ChangeAt Go.RowKit

set_option maxHeartbeats 1000000 in
theorem FnRecordsBetweenParts_walk (ao : Option Addr) (bs : List Int) (c : Nat) (a9 : Option Addr) (z1 : List Int) (c9 : Nat) (w : World) (h : Bytes w ao bs) (hc : bs.length ≤ c) (_hm : c ≤ maxLen) (_rz1 : Bytes w a9 z1) (_lc1 : z1.length ≤ c9) (_lm1 : c9 ≤ maxLen) :
    Calls Try.prog 8 #[.slice ao bs.length c, .slice a9 z1.length c9] w fun e w' => e = .returned (.bool true) ∧ Below w.heap.size w w' := by
  unfold maxLen at _hm _lm1
  by_cases hn : (bs.length : Int) ≤ 1048576
  case neg =>
    have hn' : (1048576 : Int) < (bs.length : Int) := by omega
    go_enter Try.func8, Try.ntmps8
    go_wp2
    go_ret
    exact ⟨rfl, Below.refl _ _⟩
  by_cases hn1 : (z1.length : Int) ≤ 1048576
  case neg =>
    have hn' : (1048576 : Int) < (z1.length : Int) := by omega
    go_enter Try.func8, Try.ntmps8
    go_wp2
    go_ret
    exact ⟨rfl, Below.refl _ _⟩
  go_enter Try.func8, Try.ntmps8
  go_wp2_with fail
  refine (drawRecordsBetween_any ao bs c w h hc (by omega)).mono ?_
  rintro e w1 ⟨a1, c1, rs, lo, hi, rfl, o1, hl, l0, l1, h0, h1, b1⟩
  have hbl := betL_length rs lo hi
  have r1 := o1.recs
  go_wp2_with fail
  refine (implRecordsBetween_any a1 rs c1 lo hi w1 r1 (by omega)).mono ?_
  rintro e w2 ⟨a2, c2, rfl, o2, b2⟩
  have B2 := below_join b1 b2
  have r1 := r1.below b2
  go_wp2_with fail
  refine (specRecordsBetween_any a1 rs c1 lo hi w2 r1 (by omega)).mono ?_
  rintro e w3 ⟨a3, c3, rfl, o3, b3⟩
  have B3 := below_join B2 b3
  have r1 := r1.below b3
  have i2 := o2.recs.below b3
  have i3 := o3.recs
  clear o1 o2 o3 b2 b3 B2 b1
  go_wp2_with fail
  refine (sameRecords_below a2 a3 _ _ c2 c3 w3 i2 i3 (by omega) (by omega)).mono ?_
  rintro e w4 ⟨rfl, b4⟩
  have B4 := below_join B3 b4
  have r1 := r1.below b4
  have i2 := i2.below b4
  have i3 := i3.below b4
  clear B3 b4
  cases hv : recsB rs
  · go_wp2_with fail
    refine (specRecordsValid_any a1 rs c1 w4 r1 (by omega)).mono ?_
    rintro e w5 ⟨rfl, b5⟩
    have B5 := below_join B4 b5
    go_wp2_with fail
    refine (sameRecords_below a2 a3 _ _ c2 c3 w5 (i2.below b5) (i3.below b5) (by omega) (by omega)).mono ?_
    rintro e w6 ⟨rfl, b6⟩
    go_wp2
    go_ret
    exact ⟨rfl, below_join B5 b6⟩
  by_cases hlh : lo ≤ hi
  case neg =>
    have hlh' : hi < lo := by omega
    clear hlh
    go_wp2_with fail
    refine (specRecordsValid_any a1 rs c1 w4 r1 (by omega)).mono ?_
    rintro e w5 ⟨rfl, b5⟩
    have B5 := below_join B4 b5
    go_wp2_with fail
    refine (sameRecords_below a2 a3 _ _ c2 c3 w5 (i2.below b5) (i3.below b5) (by omega) (by omega)).mono ?_
    rintro e w6 ⟨rfl, b6⟩
    go_wp2
    go_ret
    exact ⟨rfl, below_join B5 b6⟩
  obtain ⟨D, hD⟩ : ∃ D : Nat, hi - lo + 1 = (D : Int) := Int.eq_ofNat_of_zero_le (by omega)
  have hD0 : (0 : Int) < (D : Int) := by omega
  have hDz : ((D : Int) == 0) = false := beq_eq_false_iff_ne.2 (by omega)
  have hm0 : 0 ≤ (z1.length : Int) % (D : Int) := Int.emod_nonneg _ (by omega)
  have hm1 : (z1.length : Int) % (D : Int) < (D : Int) := Int.emod_lt_of_pos _ hD0
  obtain ⟨M, hM⟩ : ∃ M : Nat, (z1.length : Int) % (D : Int) = (M : Int) := Int.eq_ofNat_of_zero_le hm0
  rw [hM] at hm1
  obtain ⟨mid, hmid⟩ : ∃ mid, lo + (M : Int) = mid := ⟨_, rfl⟩
  have hp := bet_parts hv (lo := lo) (k := mid) (hi := hi) (by omega) (by omega)
  have hA : betL rs lo mid = betOf rs lo mid := by simp [betL, hv]
  have hB : betL rs mid hi = betOf rs mid hi := by simp [betL, hv]
  have hC : betL rs lo hi = betOf rs lo hi := by simp [betL, hv]
  rw [← hA, ← hB, ← hC] at hp
  have hbA := betL_length rs lo mid
  have hbB := betL_length rs mid hi
  obtain ⟨LA, hLA⟩ : ∃ LA, LA = betL rs lo mid := ⟨_, rfl⟩
  obtain ⟨LB, hLB⟩ : ∃ LB, LB = betL rs mid hi := ⟨_, rfl⟩
  obtain ⟨L, hL⟩ : ∃ L, L = betL rs lo hi := ⟨_, rfl⟩
  have HI1 := Lib.hid (fun v hx => implRecordsBetween_any a1 rs c1 lo mid v hx (by omega))
  have HI2 := Lib.hid (fun v hx => implRecordsBetween_any a1 rs c1 mid hi v hx (by omega))
  rw [← hLA, ← hLB, ← hL] at hp
  rw [← hLA] at HI1 hbA
  rw [← hLB] at HI2 hbB
  rw [← hL] at i2 i3 hbl
  rw [← hL]
  have HP1 := Lib.hid (show LA.length + LB.length = L.length by rw [← hp, List.length_append])
  have HP2 := Lib.hid (show LA.flatMap recCells ++ LB.flatMap recCells = L.flatMap recCells by rw [← hp, List.flatMap_append])
  clear hp hA hB hC hLA hLB hL hm0 i3
  go_wp2_with fail
  refine (specRecordsValid_any a1 rs c1 w4 r1 (by omega)).mono ?_
  rintro e w5 ⟨rfl, b5⟩
  have B5 := below_join B4 b5
  have r1 := r1.below b5
  have i2 := i2.below b5
  clear B4 b5
  go_wp2_with fail
  clear hv
  refine (HI1.out w5 r1).mono ?_
  rintro e w6 ⟨a6, c6, rfl, o6, b6⟩
  have B6 := below_join B5 b6
  have r1 := r1.below b6
  have i2 := i2.below b6
  clear B5
  go_wp2_with fail
  refine (HI2.out w6 r1).mono ?_
  rintro e w7 ⟨a7, c7, rfl, o7, b7⟩
  have B7 := below_join B6 b7
  have i2 := i2.below b7
  have i6 := o6.recs.below b7
  have i7 := o7.recs
  have HN6 := Lib.hid (own_nilcap o6)
  have HN7 := Lib.hid (own_nilcap o7)
  clear B6 o6 o7 b6 b7 r1
  go_wp2_with (first
    | (at_builtin
       refine name_list fun W hW => ?_
       have hoW : W.ownsRow w7.heap.size 27 3 (.slice (some ⟨w7.heap.size, 0, none⟩) 0 0) 0 [] := (by rw [hW]; exact own_made_at w7 #[] _ _ 0 _ _ rfl (Nat.le_refl _) (by simp) rfl)
       have hxW : Recs W a6 LA := (by rw [hW]; exact i6.keep (Keeps.alloc _ _))
       have bW : Below w7.heap.size w7 W := (by rw [hW]; exact (Below.refl _ _).alloc (Nat.le_refl _) _)
       refine wpList_append_row W rfl _ _ _ rfl w7.heap.size 27 _ 3 24 Try.underlying23 rec_info rfl (by decide) (some ⟨w7.heap.size, 0, none⟩) 0 0 [] (by rfl) hoW a6 LA.length c6 (LA.flatMap recCells) (by rfl) hxW (flatN_length recCells 3 recCells_length LA) (recs_one LA) HN6.out (by simp only [maxLen]; omega) (by omega) bW.size ?_
       intro aX cX wX hoX hgX
       rw [Nat.zero_add, List.nil_append] at hoX
       have bX := below_append bW hoW hgX bW.size
       rw [Nat.zero_add]
       clear hW hoW hxW bW hgX)
    | (at_builtin
       refine wpList_append_row wX rfl _ _ _ rfl w7.heap.size 27 _ 3 24 Try.underlying23 rec_info rfl (by decide) aX LA.length cX (LA.flatMap recCells) (by rfl) hoX a7 LB.length c7 (LB.flatMap recCells) (by rfl) (i7.below bX) (flatN_length recCells 3 recCells_length LB) (recs_one LB) HN7.out (by simp only [maxLen]; omega) (by omega) bX.size ?_
       intro aY cY wY hoY hgY
       have bY := below_append bX hoX hgY bX.size
       rw [HP1.out]
       rw [HP1.out, HP2.out] at hoY
       have oY : OwnR wY w7.heap.size aY cY L := hoY
       clear hoX bX hgY hoY))
  refine (sameRecords_below aY a2 L L cY c2 wY oY.recs (i2.below bY) (by omega) (by omega)).mono ?_
  rintro e wZ ⟨rfl, bZ⟩
  go_wp2
  go_ret
  exact ⟨by simp, (B7.trans (bY.mono B7.size)).trans (bZ.mono (Nat.le_trans B7.size bY.size))⟩

set_option linter.unusedVariables false in
set_option maxRecDepth 100000 in
theorem FnRecordsBetweenParts_lifted (os : Os) (started : os.Started) (H : Type) (enc : TypeId × Value → H) :
    ReturnsInHanded {} Try.checked os 8 .any (Rows.fnRecordsBetweenPartsSpec.pre6 enc Try.prog Try.f8 Rows.fnRecordsBetweenPartsRow.domain false) (Rows.fnRecordsBetweenPartsSpec.post enc Try.prog Try.f8 false true false false) := by
  refine returnsInHanded_of_change (C := Try.checked) own_knob started (by kernel_rfl) Try.func8
    (ChangeSpec.witness6 (enc := enc) (C := Try.checked) false ⟨#[], #[.slice none 0 0, .slice none 0 0], []⟩ 8 (by kernel_rfl) (by kernel_rfl) (by kernel_rfl) (by kernel_rfl)) ?_
  intro W base args ds gs before hval0 hW hcnd _
  have hval : ∀ (j : Nat) t v, Try.f8.params[j]? = some t → args[j]? = some v → Value.okWide Try.prog W .any base t v := hval0
  have hW' := hW
  obtain ⟨p, q, hA0, hV, rfl, hfz, hnd⟩ := hW
  have hA : DataW.TrodAll enc Try.prog W 0 (fun _ => true) true Try.f8.params.toList args.toList ds p := hA0
  rw [Try.params8] at hA hval
  obtain ⟨v0, vs0, d0, ds0, p0, q0, hargs, rfl, rfl, h0, r0⟩ := trodAll_cons hA
  obtain ⟨v1, vs1, d1, ds1, p1, q1, rfl, rfl, rfl, h1, r1⟩ := trodAll_cons r0
  obtain ⟨rfl, rfl, rfl⟩ := trodAll_nil r1
  obtain rfl : args = #[v0, v1] := by cases args; simp_all
  obtain ⟨rfl, rfl⟩ := trodVars_none hV
  have k0 := h0
  have lt0 : ∀ x ∈ p0, x.block < W.heap.size := by obtain ⟨m, hm⟩ := k0; exact DataW.trod_lt m _ _ _ hm
  obtain ⟨a0, len0, cap0, rfl⟩ := okWide_slice Try.underlying22 (hval 0 22 v0 rfl rfl)
  obtain ⟨z0, rfl, lc0, lm0, rz0⟩ : ∃ z : List Int, len0 = z.length ∧ z.length ≤ cap0 ∧ cap0 ≤ maxLen ∧ Bytes W a0 z := by
    obtain ⟨fuel, hf⟩ := h0
    obtain ⟨ao, cap, z, e, h1, h2, h3⟩ := rd_bytes hf
    simp [Value.cells] at e
    obtain ⟨rfl, rfl, rfl⟩ := e
    exact ⟨z, rfl, h1, h2, h3⟩
  have lb0 : z0.length ≤ cap0 := lc0
  have k1 := h1
  have lt1 : ∀ x ∈ p1, x.block < W.heap.size := by obtain ⟨m, hm⟩ := k1; exact DataW.trod_lt m _ _ _ hm
  obtain ⟨a1, len1, cap1, rfl⟩ := okWide_slice Try.underlying22 (hval 1 22 v1 rfl rfl)
  obtain ⟨z1, rfl, lc1, lm1, rz1⟩ : ∃ z : List Int, len1 = z.length ∧ z.length ≤ cap1 ∧ cap1 ≤ maxLen ∧ Bytes W a1 z := by
    obtain ⟨fuel, hf⟩ := h1
    obtain ⟨ao, cap, z, e, h1, h2, h3⟩ := rd_bytes hf
    simp [Value.cells] at e
    obtain ⟨rfl, rfl, rfl⟩ := e
    exact ⟨z, rfl, h1, h2, h3⟩
  have lb1 : z1.length ≤ cap1 := lc1
  clear hA0 hval0
  refine (FnRecordsBetweenParts_walk a0 z0 cap0 a1 z1 cap1 W rz0 lc0 lm0 rz1 lc1 lm1).mono fun e W' ⟨he, bel⟩ => ?_
  subst he
  exact ⟨_, rfl, _, _, _, [], _, [], hW', trodAll_mk1 (shut_bool Try.underlying4 _), (trodAll_cons_mk (Below.trod laid_out (by kernel_rfl) (of_decide_eq_true (by kernel_rfl)) k0 bel lt0) (trodAll_cons_mk (Below.trod laid_out (by kernel_rfl) (of_decide_eq_true (by kernel_rfl)) k1 bel lt1) trodAll_mk0)), rfl, bel.frame _, fun h => by cases h⟩

theorem FnRecordsBetweenParts_holds : Rows.FnRecordsBetweenPartsSaid :=
  OpenClaim.holds_of_wide 8 Try.f8 rfl rfl rfl rfl rfl rfl rfl ⟨rfl, rfl, rfl, rfl, rfl⟩ rfl rfl rfl rfl rfl (by kernel_rfl) Try.func8 (by kernel_rfl)
    (of_decide_eq_true (by kernel_rfl)) (by unfold Func.isWrapper; first | (rw [if_pos (by decide +kernel)]; kernel_rfl) | (rw [if_neg (by decide +kernel)]; exact ⟨rfl, rfl⟩))
    (fun os started H enc _ => FnRecordsBetweenParts_lifted os started H enc)
end Go.Proofs.Ytnapcacgdidgdaa
