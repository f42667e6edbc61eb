/- FnRecordsBytes: for every code, the bytes of both ways are all bytes, those of each way are in order. No condition. -/
import Derived.Test.YtnapcacgdidgdaaRec3
import Derived.Test.YtnapcacgdidgdaaRecDraw
import Derived.Test.YtnapcacgdidgdaaSaidB
namespace Go.Proofs.Ytnapcacgdidgdaa
open Go.ChangeShapes Go.WideShapes Go.ChangeAt Go.RowKit

theorem bytesOf_at {rs : List Rec} {way : Int} {k : Nat} {r : Rec} (h : rs[k]? = some r) (hw : r.w = way) : (bytesOf rs way)[(bytesOf (rs.take k) way).length]? = some r.b := by
  have h2 : bytesOf (rs.take (k + 1)) way = bytesOf (rs.take k) way ++ [r.b] := bytesOf_hit h hw
  have h3 : bytesOf rs way = bytesOf (rs.take (k + 1)) way ++ bytesOf (rs.drop (k + 1)) way := by
    unfold bytesOf
    rw [← List.map_append, ← List.filter_append, List.take_append_drop]
  rw [h3, h2, List.append_assoc, List.getElem?_append_right (Nat.le_refl _), Nat.sub_self]
  rfl
theorem bytesOf_ways : ∀ rs : List Rec, (∀ r ∈ rs, r.w = 0 ∨ r.w = 1) → (bytesOf rs 0).length + (bytesOf rs 1).length = rs.length
  | [], _ => rfl
  | r :: rs, h => by
    have ih := bytesOf_ways rs fun q hq => h q (List.mem_cons_of_mem _ hq)
    unfold bytesOf at ih ⊢
    rcases h r (by simp) with e | e
    · simp [List.filter_cons, e] at ih ⊢; omega
    · simp [List.filter_cons, e] at ih ⊢; omega
theorem recsB_ways {rs : List Rec} (h : recsB rs = true) : ∀ r ∈ rs, r.w = 0 ∨ r.w = 1 := by
  intro r hr
  obtain ⟨k, hk, rfl⟩ := List.getElem_of_mem hr
  have := ((recsB_iff.1 h).2 k hk _ (List.getElem?_eq_getElem hk)).1
  simp [recB] at this
  omega

set_option maxHeartbeats 1000000 in
theorem FnRecordsBytes_walk (ao : Option Addr) (bs : List Int) (c : Nat) (w : World) (h : Bytes w ao bs) (hc : bs.length ≤ c) (_hm : c ≤ maxLen) :
    Calls Try.prog 5 #[.slice ao bs.length c] w fun e w' => e = .returned (.bool true) ∧ Below w.heap.size w w' := by
  unfold maxLen at _hm
  by_cases hn : (bs.length : Int) ≤ 1048576
  · go_enter Try.func5, Try.ntmps5
    go_wp2_with fail
    refine (drawRecordsBytes_any ao bs c w h hc (by omega)).mono ?_
    rintro e w1 ⟨a1, c1, rs, way, rfl, o1, hl, wy0, wy1, b1⟩
    have hbl := bytesOf_length rs way
    have r1 := o1.recs
    go_wp2_with fail
    refine (implRecordsBytes_any a1 rs c1 way w1 r1 (by omega)).mono ?_
    rintro e w2 ⟨a2, c2, rfl, o2, b2⟩
    have B2 := below_join b1 b2
    have r1 := r1.below b2
    go_wp2_with fail
    refine (specRecordsBytes_any a1 rs c1 way w2 r1 (by omega)).mono ?_
    rintro e w3 ⟨a3, c3, rfl, o3, b3⟩
    have B3 := below_join B2 b3
    have r1 := r1.below b3
    have i2 := o2.ints.below b3
    have i3 := o3.ints
    have hLl : (bytesL rs way).length ≤ 31 := by
      unfold bytesL
      split
      · omega
      · simp
    clear o1 o2 o3 b2 b3 B2 b1
    go_wp2_with fail
    refine (sameInts_below a2 a3 _ _ c2 c3 w3 i2 i3 (by omega) (by omega)).mono ?_
    rintro e w4 ⟨rfl, b4⟩
    have B4 := below_join B3 b4
    have r1 := r1.below b4
    have i2 := i2.below b4
    have i3 := i3.below b4
    clear B3 b4
    cases hv : recsB rs
    · go_wp2_with fail
      refine (specRecordsValid_any a1 rs c1 w4 r1 (by omega)).mono ?_
      rintro e w5 ⟨rfl, b5⟩
      have B5 := below_join B4 b5
      go_wp2_with fail
      refine (sameInts_below a2 a3 _ _ c2 c3 w5 (i2.below b5) (i3.below b5) (by omega) (by omega)).mono ?_
      rintro e w6 ⟨rfl, b6⟩
      go_wp2
      go_ret
      exact ⟨rfl, below_join B5 b6⟩
    · have hLe : bytesL rs way = bytesOf rs way := by simp [bytesL, hv]
      have hLs : (bytesL rs 0).length + (bytesL rs 1).length = rs.length := by simp only [bytesL, hv, if_true]; exact bytesOf_ways rs (recsB_ways hv)
      have HS := Lib.hid hLs
      have HE := Lib.hid hLe
      clear hLe hLs i3
      go_wp2_with fail
      refine (specRecordsValid_any a1 rs c1 w4 r1 (by omega)).mono ?_
      rintro e w5 ⟨rfl, b5⟩
      have B5 := below_join B4 b5
      have r1 := r1.below b5
      have i2 := i2.below b5
      clear B4 b5
      go_wp2
      clear hv
      go_loopw [7, 8] (fun v i wr => ∃ k : Nat, k ≤ rs.length ∧ i = .int .i64 k ∧ v = .int .i64 ((bytesOf (rs.take k) way).length : Nat) ∧ Below w5.heap.size w5 wr) (fun _ i _ => rs.length - (intOf i).toNat)
      case atStart => exact ⟨0, Nat.zero_le _, rfl, rfl, Below.refl _ _⟩
      case round =>
        obtain ⟨k, hk, rfl, rfl, hb⟩ := hrel
        obtain ⟨q, hq⟩ : ∃ q, q = (bytesOf (rs.take k) way).length := ⟨_, rfl⟩
        have hqk : q ≤ 31 := by rw [hq]; exact Nat.le_trans (bytesOf_length _ _) (Nat.le_trans (List.length_take_le' _ _) hl)
        rw [← hq]
        have HQ := Lib.hid hq
        clear hq
        by_cases hlt : k < rs.length
        · obtain ⟨b, off, ⟨t, x, y⟩, rfl, er, _, x0, x1, x2⟩ := (r1.below hb).at_ hlt
          have ER := Lib.hid er
          clear er
          dsimp only at x0 x1 x2
          by_cases hxw : x = way
          · have hbq : (x == way) = true := by simpa using hxw
            have hy : (bytesL rs way)[q]? = some y := by rw [HE.out, HQ.out]; exact bytesOf_at ER.out hxw
            have hql : q < (bytesL rs way).length := (List.getElem?_eq_some_iff.1 hy).1
            obtain ⟨b', off', y', rfl, ey, y0⟩ := (i2.below hb).at_ hql
            obtain rfl : y = y' := by rw [hy] at ey; exact Option.some.inj ey
            have HX := Lib.hid hxw
            clear hxw hy ey r1 i2
            go_wp2
            go_quiet (fail)
            go_wp2
            go_roundw
            case rel => exact ⟨k + 1, by omega, by go_num, by rw [bytesOf_hit ER.out HX.out, List.length_append, ← HQ.out]; go_num, below_drewN hb _⟩
            case measure => simp [intOf]; omega
          · have hbq : (x == way) = false := by simpa using hxw
            have HX := Lib.hid hxw
            clear hxw r1 i2
            go_wp2
            go_roundw
            case rel => exact ⟨k + 1, by omega, by go_num, by rw [bytesOf_miss ER.out HX.out, ← HQ.out], hb⟩
            case measure => simp [intOf]; omega
        · have he : k = rs.length := by omega
          have hqe : ((q : Int) == ((bytesL rs way).length : Int)) = true := by rw [HQ.out, HE.out, he, List.take_length]; simp
          have hse : (((bytesL rs 0).length : Int) + ((bytesL rs 1).length : Int) == (rs.length : Int)) = true := by have := HS.out; simp; omega
          have h0 : (bytesL rs 0).length ≤ 31 := by have := HS.out; omega
          have h1 : (bytesL rs 1).length ≤ 31 := by have := HS.out; omega
          clear he
          have r2 := r1.below hb
          go_wp2_with fail
          refine (implRecordsBytes_any a1 rs c1 0 wr r2 (by omega)).mono ?_
          rintro e w6 ⟨a6, c6, rfl, o6, b6⟩
          go_wp2_with fail
          refine (implRecordsBytes_any a1 rs c1 1 w6 (r2.below b6) (by omega)).mono ?_
          rintro e w7 ⟨a7, c7, rfl, o7, b7⟩
          go_wp2
          go_ret
          exact ⟨rfl, below_join (below_join (below_join B5 hb) b6) b7⟩
  · have hn' : (1048576 : Int) < (bs.length : Int) := by omega
    go_enter Try.func5, Try.ntmps5
    go_wp2
    go_ret
    exact ⟨rfl, Below.refl _ _⟩

set_option linter.unusedVariables false in
set_option maxRecDepth 100000 in
theorem FnRecordsBytes_lifted (os : Os) (started : os.Started) (H : Type) (enc : TypeId × Value → H) :
    ReturnsInHanded {} Try.checked os 5 .any (Rows.fnRecordsBytesSpec.pre6 enc Try.prog Try.f5 Rows.fnRecordsBytesRow.domain false) (Rows.fnRecordsBytesSpec.post enc Try.prog Try.f5 false true false false) := by
  refine returnsInHanded_of_change (C := Try.checked) own_knob started (by kernel_rfl) Try.func5
    (ChangeSpec.witness6 (enc := enc) (C := Try.checked) false ⟨#[], #[.slice none 0 0], []⟩ 8 (by kernel_rfl) (by kernel_rfl) (by kernel_rfl) (by kernel_rfl)) ?_
  intro W base args ds gs before hval0 hW hcnd _
  have hval : ∀ (j : Nat) t v, Try.f5.params[j]? = some t → args[j]? = some v → Value.okWide Try.prog W .any base t v := hval0
  have hW' := hW
  obtain ⟨p, q, hA0, hV, rfl, hfz, hnd⟩ := hW
  have hA : DataW.TrodAll enc Try.prog W 0 (fun _ => true) true Try.f5.params.toList args.toList ds p := hA0
  rw [Try.params5] at hA hval
  obtain ⟨v0, vs0, d0, ds0, p0, q0, hargs, rfl, rfl, h0, r0⟩ := trodAll_cons hA
  obtain ⟨rfl, rfl, rfl⟩ := trodAll_nil r0
  obtain rfl : args = #[v0] := by cases args; simp_all
  obtain ⟨rfl, rfl⟩ := trodVars_none hV
  have k0 := h0
  have lt0 : ∀ x ∈ p0, x.block < W.heap.size := by obtain ⟨m, hm⟩ := k0; exact DataW.trod_lt m _ _ _ hm
  obtain ⟨a0, len0, cap0, rfl⟩ := okWide_slice Try.underlying22 (hval 0 22 v0 rfl rfl)
  obtain ⟨z0, rfl, lc0, lm0, rz0⟩ : ∃ z : List Int, len0 = z.length ∧ z.length ≤ cap0 ∧ cap0 ≤ maxLen ∧ Bytes W a0 z := by
    obtain ⟨fuel, hf⟩ := h0
    obtain ⟨ao, cap, z, e, h1, h2, h3⟩ := rd_bytes hf
    simp [Value.cells] at e
    obtain ⟨rfl, rfl, rfl⟩ := e
    exact ⟨z, rfl, h1, h2, h3⟩
  have lb0 : z0.length ≤ cap0 := lc0
  clear hA0 hval0
  refine (FnRecordsBytes_walk a0 z0 cap0 W rz0 lc0 lm0).mono fun e W' ⟨he, bel⟩ => ?_
  subst he
  exact ⟨_, rfl, _, _, _, [], _, [], hW', trodAll_mk1 (shut_bool Try.underlying4 _), (trodAll_cons_mk (Below.trod laid_out (by kernel_rfl) (of_decide_eq_true (by kernel_rfl)) k0 bel lt0) trodAll_mk0), rfl, bel.frame _, fun h => by cases h⟩

theorem FnRecordsBytes_holds : Rows.FnRecordsBytesSaid :=
  OpenClaim.holds_of_wide 5 Try.f5 rfl rfl rfl rfl rfl rfl rfl ⟨rfl, rfl, rfl, rfl, rfl⟩ rfl rfl rfl rfl rfl (by kernel_rfl) Try.func5 (by kernel_rfl)
    (of_decide_eq_true (by kernel_rfl)) (by unfold Func.isWrapper; first | (rw [if_pos (by decide +kernel)]; kernel_rfl) | (rw [if_neg (by decide +kernel)]; exact ⟨rfl, rfl⟩))
    (fun os started H enc _ => FnRecordsBytes_lifted os started H enc)
end Go.Proofs.Ytnapcacgdidgdaa
