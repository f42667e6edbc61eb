/- FnRecordsBetween: for every code, only what is between two times is told. No condition. -/
import Derived.Test.YtnapcacgdidgdaaTree3
import Derived.Test.YtnapcacgdidgdaaSaidB
namespace Go.Proofs.Ytnapcacgdidgdaa
open Go.ChangeShapes Go.WideShapes Go.ChangeAt Go.RowKit

set_option maxHeartbeats 1000000 in
theorem FnRecordsBetween_walk (ao : Option Addr) (bs : List Int) (c : Nat) (w : World) (h : Bytes w ao bs) (hc : bs.length ≤ c) (_hm : c ≤ maxLen) :
    Calls Try.prog 7 #[.slice ao bs.length c] w fun e w' => e = .returned (.bool true) ∧ Below w.heap.size w w' := by
  unfold maxLen at _hm
  by_cases hn : (bs.length : Int) ≤ 1048576
  · go_enter Try.func7, Try.ntmps7
    go_wp2_with fail
    refine (drawRecordsBetween_any ao bs c w h hc (by omega)).mono ?_
    rintro e w1 ⟨a1, c1, rs, lo, hi, rfl, o1, hl, l0, l1, h0, h1, b1⟩
    have hbl := betL_length rs lo hi
    have r1 := o1.recs
    go_wp2_with fail
    refine (implRecordsBetween_any a1 rs c1 lo hi w1 r1 (by omega)).mono ?_
    rintro e w2 ⟨a2, c2, rfl, o2, b2⟩
    have B2 := below_join b1 b2
    have r1 := r1.below b2
    go_wp2_with fail
    refine (specRecordsBetween_any a1 rs c1 lo hi w2 r1 (by omega)).mono ?_
    rintro e w3 ⟨a3, c3, rfl, o3, b3⟩
    have B3 := below_join B2 b3
    have r1 := r1.below b3
    have i2 := o2.recs.below b3
    have i3 := o3.recs
    clear o1 o2 o3 b2 b3 B2 b1
    go_wp2_with fail
    refine (sameRecords_below a2 a3 _ _ c2 c3 w3 i2 i3 (by omega) (by omega)).mono ?_
    rintro e w4 ⟨rfl, b4⟩
    have B4 := below_join B3 b4
    have r1 := r1.below b4
    have i2 := i2.below b4
    have i3 := i3.below b4
    clear B3 b4
    cases hv : recsB rs
    · go_wp2_with fail
      refine (specRecordsValid_any a1 rs c1 w4 r1 (by omega)).mono ?_
      rintro e w5 ⟨rfl, b5⟩
      have B5 := below_join B4 b5
      go_wp2_with fail
      refine (sameRecords_below a2 a3 _ _ c2 c3 w5 (i2.below b5) (i3.below b5) (by omega) (by omega)).mono ?_
      rintro e w6 ⟨rfl, b6⟩
      go_wp2
      go_ret
      exact ⟨rfl, below_join B5 b6⟩
    · have hLe : betL rs lo hi = betOf rs lo hi := by simp [betL, hv]
      have HE := Lib.hid hLe
      have HV := Lib.hid (recsB_bet hv lo hi)
      obtain ⟨L, hL⟩ : ∃ L, L = betL rs lo hi := ⟨_, rfl⟩
      rw [← hL] at HE i2 hbl
      rw [← HE.out] at HV
      rw [← hL]
      clear hLe i3 hL
      go_wp2_with fail
      refine (specRecordsValid_any a1 rs c1 w4 r1 (by omega)).mono ?_
      rintro e w5 ⟨rfl, b5⟩
      have B5 := below_join B4 b5
      have r1 := r1.below b5
      have i2 := i2.below b5
      clear B4 b5
      go_wp2
      clear hv
      go_loopw [8, 9] (fun v i wr => ∃ k : Nat, k ≤ rs.length ∧ i = .int .i64 k ∧ v = .int .i64 ((betOf (rs.take k) lo hi).length : Nat) ∧ Below w5.heap.size w5 wr) (fun _ i _ => rs.length - (intOf i).toNat)
      case atStart => exact ⟨0, Nat.zero_le _, rfl, rfl, Below.refl _ _⟩
      case round =>
        obtain ⟨k, hk, rfl, rfl, hb⟩ := hrel
        obtain ⟨q, hq⟩ : ∃ q, q = (betOf (rs.take k) lo hi).length := ⟨_, rfl⟩
        have hqk : q ≤ 31 := by rw [hq]; exact Nat.le_trans (betOf_length _ _ _) (Nat.le_trans (List.length_take_le' _ _) hl)
        rw [← hq]
        have HQ := Lib.hid hq
        clear hq
        by_cases hlt : k < rs.length
        · obtain ⟨b, off, ⟨t, x, y⟩, rfl, er, _, x0, x1, x2⟩ := (r1.below hb).at_ hlt
          have ER := Lib.hid er
          clear er
          dsimp only at x0 x1 x2
          by_cases g1 : lo ≤ t
          case neg =>
            have g1' : t < lo := by omega
            clear g1 r1 i2
            go_wp2
            go_roundw
            case rel => exact ⟨k + 1, by omega, by go_num, by rw [betOf_miss ER.out (by dsimp only; omega), ← HQ.out], hb⟩
            case measure => simp [intOf]; omega
          by_cases g2 : t < hi
          case neg =>
            have g2' : hi ≤ t := by omega
            clear g2 r1 i2
            go_wp2
            go_roundw
            case rel => exact ⟨k + 1, by omega, by go_num, by rw [betOf_miss ER.out (by dsimp only; omega), ← HQ.out], hb⟩
            case measure => simp [intOf]; omega
          have hy : L[q]? = some ⟨t, x, y⟩ := by rw [HE.out, HQ.out]; exact betOf_at ER.out g1 g2
          have hql : q < L.length := (List.getElem?_eq_some_iff.1 hy).1
          obtain ⟨b', off', r', rfl, ey, _, y0, y1, y2⟩ := (i2.below hb).at_ hql
          obtain rfl : (⟨t, x, y⟩ : Rec) = r' := by rw [hy] at ey; exact Option.some.inj ey
          dsimp only at y0 y1 y2
          clear hy ey r1 i2
          go_wp2
          go_quiet (fail)
          go_wp2
          go_roundw
          case rel => exact ⟨k + 1, by omega, by go_num, by rw [betOf_hit ER.out g1 g2, List.length_append, ← HQ.out]; go_num, below_drewN hb _⟩
          case measure => simp [intOf]; omega
        · have he : k = rs.length := by omega
          have hqe : ((q : Int) == (L.length : Int)) = true := by rw [HQ.out, HE.out, he, List.take_length]; simp
          clear he
          go_wp2_with fail
          refine (implRecordsValid_any a2 L c2 wr (i2.below hb) (by omega)).mono ?_
          rintro e w6 ⟨rfl, b6⟩
          go_wp2
          go_ret
          refine ⟨?_, (B5.trans (hb.mono B5.size)).trans (b6.mono (Nat.le_trans B5.size hb.size))⟩
          exact ret_bool HV.out
  · have hn' : (1048576 : Int) < (bs.length : Int) := by omega
    go_enter Try.func7, Try.ntmps7
    go_wp2
    go_ret
    exact ⟨rfl, Below.refl _ _⟩

set_option linter.unusedVariables false in
set_option maxRecDepth 100000 in
theorem FnRecordsBetween_lifted (os : Os) (started : os.Started) (H : Type) (enc : TypeId × Value → H) :
    ReturnsInHanded {} Try.checked os 7 .any (Rows.fnRecordsBetweenSpec.pre6 enc Try.prog Try.f7 Rows.fnRecordsBetweenRow.domain false) (Rows.fnRecordsBetweenSpec.post enc Try.prog Try.f7 false true false false) := by
  refine returnsInHanded_of_change (C := Try.checked) own_knob started (by kernel_rfl) Try.func7
    (ChangeSpec.witness6 (enc := enc) (C := Try.checked) false ⟨#[], #[.slice none 0 0], []⟩ 8 (by kernel_rfl) (by kernel_rfl) (by kernel_rfl) (by kernel_rfl)) ?_
  intro W base args ds gs before hval0 hW hcnd _
  have hval : ∀ (j : Nat) t v, Try.f7.params[j]? = some t → args[j]? = some v → Value.okWide Try.prog W .any base t v := hval0
  have hW' := hW
  obtain ⟨p, q, hA0, hV, rfl, hfz, hnd⟩ := hW
  have hA : DataW.TrodAll enc Try.prog W 0 (fun _ => true) true Try.f7.params.toList args.toList ds p := hA0
  rw [Try.params7] at hA hval
  obtain ⟨v0, vs0, d0, ds0, p0, q0, hargs, rfl, rfl, h0, r0⟩ := trodAll_cons hA
  obtain ⟨rfl, rfl, rfl⟩ := trodAll_nil r0
  obtain rfl : args = #[v0] := by cases args; simp_all
  obtain ⟨rfl, rfl⟩ := trodVars_none hV
  have k0 := h0
  have lt0 : ∀ x ∈ p0, x.block < W.heap.size := by obtain ⟨m, hm⟩ := k0; exact DataW.trod_lt m _ _ _ hm
  obtain ⟨a0, len0, cap0, rfl⟩ := okWide_slice Try.underlying22 (hval 0 22 v0 rfl rfl)
  obtain ⟨z0, rfl, lc0, lm0, rz0⟩ : ∃ z : List Int, len0 = z.length ∧ z.length ≤ cap0 ∧ cap0 ≤ maxLen ∧ Bytes W a0 z := by
    obtain ⟨fuel, hf⟩ := h0
    obtain ⟨ao, cap, z, e, h1, h2, h3⟩ := rd_bytes hf
    simp [Value.cells] at e
    obtain ⟨rfl, rfl, rfl⟩ := e
    exact ⟨z, rfl, h1, h2, h3⟩
  have lb0 : z0.length ≤ cap0 := lc0
  clear hA0 hval0
  refine (FnRecordsBetween_walk a0 z0 cap0 W rz0 lc0 lm0).mono fun e W' ⟨he, bel⟩ => ?_
  subst he
  exact ⟨_, rfl, _, _, _, [], _, [], hW', trodAll_mk1 (shut_bool Try.underlying4 _), (trodAll_cons_mk (Below.trod laid_out (by kernel_rfl) (of_decide_eq_true (by kernel_rfl)) k0 bel lt0) trodAll_mk0), rfl, bel.frame _, fun h => by cases h⟩

theorem FnRecordsBetween_holds : Rows.FnRecordsBetweenSaid :=
  OpenClaim.holds_of_wide 7 Try.f7 rfl rfl rfl rfl rfl rfl rfl ⟨rfl, rfl, rfl, rfl, rfl⟩ rfl rfl rfl rfl rfl (by kernel_rfl) Try.func7 (by kernel_rfl)
    (of_decide_eq_true (by kernel_rfl)) (by unfold Func.isWrapper; first | (rw [if_pos (by decide +kernel)]; kernel_rfl) | (rw [if_neg (by decide +kernel)]; exact ⟨rfl, rfl⟩))
    (fun os started H enc _ => FnRecordsBetween_lifted os started H enc)
end Go.Proofs.Ytnapcacgdidgdaa
