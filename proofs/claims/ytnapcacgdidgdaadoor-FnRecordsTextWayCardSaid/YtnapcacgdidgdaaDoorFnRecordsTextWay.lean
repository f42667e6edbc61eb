/- FnRecordsTextWay: for every code, records the other way round have another text of the same length. No conditions beyond the statement's own. -/
import Derived.Test.YtnapcacgdidgdaaDoorTabs
import Derived.Test.YtnapcacgdidgdaaDoorTextS
import Derived.Test.YtnapcacgdidgdaaDoorRecsAt
import Derived.Test.YtnapcacgdidgdaaDoorCards
import Derived.Test.YtnapcacgdidgdaaDoorTie
import Derived.SevenTiedAt
namespace Go.Proofs.YtnapcacgdidgdaaDoor
open Go Go.ChangeShapes Go.WideShapes Go.ChangeAt Go.RowKit

theorem turn_at {rs : List Rec} {k : Nat} (hk : k < rs.length) : ((rs.take k).map turnW ++ rs.drop k)[k]? = some rs[k] := by
  have h1 : ((rs.take k).map turnW).length = k := by rw [List.length_map, List.length_take]; omega
  rw [List.getElem?_append_right (by omega), h1, Nat.sub_self, List.getElem?_drop, Nat.add_zero, List.getElem?_eq_getElem hk]
theorem turn_step {rs : List Rec} {k : Nat} (hk : k < rs.length) (hl : k < ((rs.take k).map turnW ++ rs.drop k).length) :
    ((rs.take k).map turnW ++ rs.drop k).set k (recSet ((rs.take k).map turnW ++ rs.drop k)[k] 1 (1 - rs[k].w)) = (rs.take (k + 1)).map turnW ++ rs.drop (k + 1) := by
  have h1 : ((rs.take k).map turnW).length = k := by rw [List.length_map, List.length_take]; omega
  have h2 : ((rs.take k).map turnW ++ rs.drop k)[k] = rs[k] := (List.getElem?_eq_some_iff.1 (turn_at hk)).2
  rw [h2, List.set_append_right _ _ (by omega), h1, Nat.sub_self, List.drop_eq_getElem_cons hk, List.set_cons_zero, List.take_succ_eq_append_getElem hk, List.map_append]
  simp [turnW, recSet]

set_option maxHeartbeats 2000000 in
set_option maxRecDepth 100000 in
theorem FnRecordsTextWay_walk (ao : Option Addr) (bs : List Int) (c : Nat) (w : World) (h : Bytes w ao bs) (hc : bs.length ≤ c) (_hm : c ≤ maxLen) (hT : Tab w) :
    Calls Tryd.prog 4 #[.slice ao bs.length c] w fun e w' => e = .returned (.bool true) ∧ Below w.heap.size w w' := by
  unfold maxLen at _hm
  by_cases hn : (bs.length : Int) ≤ 1048576
  case neg =>
    have hn' : (1048576 : Int) < (bs.length : Int) := by omega
    go_enter Tryd.func4, Tryd.ntmps4
    go_wp2
    go_ret
    exact ⟨rfl, Below.refl _ _⟩
  go_enter Tryd.func4, Tryd.ntmps4
  go_wp2_with fail
  refine (drawRecordsText_any ao bs c w h hc (by omega)).mono ?_
  rintro e w1 ⟨a1, c1, rs, rfl, o1, hl, b1⟩
  go_wp2_with fail
  refine (implRecordsText_any a1 rs c1 w1 o1.recs (by omega) (hT.below b1)).mono ?_
  rintro e w2 ⟨rfl, b2⟩
  have B2 := below_join b1 b2
  have o2 := o1.below b2
  go_wp2_with fail
  refine (specRecordsText_any a1 rs c1 w2 o2.recs (by omega)).mono ?_
  rintro e w3 ⟨rfl, b3⟩
  have B3 := below_join B2 b3
  have o3 := o2.below b3
  clear b1 b2 b3 B2 o1 o2
  go_wp2_with fail
  refine (specRecordsValid_any a1 rs c1 w3 o3.recs (by omega)).mono ?_
  rintro e w4 ⟨rfl, b4⟩
  have B4 := below_join B3 b4
  have o4 := o3.below b4
  clear b4 B3 o3
  cases hv : recsB rs
  · go_wp2
    go_ret
    exact ⟨rfl, B4⟩
  rw [textL_yes hv]
  have hT4 := hT.below B4
  have r4 := o4.recs
  have hcap := own_cap o4
  have hA := Lib.hid (own_nilcap o4)
  have hcm := own_capmax o4
  go_wp2_with (
    at_builtin
    refine name_list fun W hW => ?_
    have hoW : W.ownsRow w4.heap.size 29 3 (.slice (some ⟨w4.heap.size, 0, none⟩) 0 0) 0 [] := (by rw [hW]; exact own_made_at w4 #[] _ _ 0 _ _ rfl (Nat.le_refl _) (by simp) rfl)
    have hxW : Recs W a1 rs := (by rw [hW]; exact r4.keep (Keeps.alloc _ _))
    have bW : Below w4.heap.size w4 W := (by rw [hW]; exact (Below.refl _ _).alloc (Nat.le_refl _) _)
    refine wpList_append_row W rfl _ _ _ rfl w4.heap.size 29 _ 3 24 Tryd.underlying23 rec_info rfl (by decide) (some ⟨w4.heap.size, 0, none⟩) 0 0 [] (by rfl) hoW a1 rs.length c1 (rs.flatMap recCells) (by rfl) hxW (flatN_length recCells 3 recCells_length rs) (recs_one rs) hA.out (by simp only [maxLen]; omega) (by omega) bW.size ?_
    intro aY cY wY hoY hgY
    rw [Nat.zero_add, List.nil_append] at hoY
    rw [Nat.zero_add]
    have bY := below_append bW hoW hgY bW.size
    have oY : OwnR wY w4.heap.size aY cY rs := hoY
    clear hW hoW hxW bW hgY hoY)
  clear o4 r4
  have HV := Lib.hid hv
  have HI := Lib.hid (fun v h1 h2 => implRecordsText_any aY (rs.map turnW) cY v h1 (by rw [List.length_map]; omega) h2)
  rw [List.length_map, textL_yes (recsB_turn hv)] at HI
  have hle : (((textOf (rs.map turnW)).length : Int) == ((textOf rs).length : Int)) = true := by rw [textOf_turn_len]; simp
  obtain ⟨T1, hT1⟩ : ∃ T1, T1 = textOf rs := ⟨_, rfl⟩
  obtain ⟨T2, hT2⟩ : ∃ T2, T2 = textOf (rs.map turnW) := ⟨_, rfl⟩
  have HE := Lib.hid (show rs.length = 0 → T2 = T1 by intro h0; have : rs = [] := List.eq_nil_of_length_eq_zero h0; subst this; rw [hT1, hT2]; rfl)
  have HF := Lib.hid (show rs.length ≠ 0 → T2 ≠ T1 by intro h0; rw [hT1, hT2]; exact textOf_turn_ne hv (by rintro rfl; exact h0 rfl))
  rw [← hT1, ← hT2] at hle
  rw [← hT2] at HI
  rw [← hT1]
  clear hT1 hT2 hv
  go_loopw [7] (fun i wr => ∃ k : Nat, k ≤ rs.length ∧ i = .int .i64 k ∧ OwnR wr w4.heap.size aY cY ((rs.take k).map turnW ++ rs.drop k) ∧ Below w4.heap.size w4 wr) (fun i _ => rs.length - (intOf i).toNat)
  case atStart => exact ⟨0, Nat.zero_le _, rfl, oY, bY⟩
  case round =>
    obtain ⟨k, hk, rfl, ho, hb⟩ := hrel
    have hll : ((rs.take k).map turnW ++ rs.drop k).length = rs.length := by rw [List.length_append, List.length_map, List.length_take, List.length_drop]; omega
    by_cases hlt : k < rs.length
    · have hkl : k < ((rs.take k).map turnW ++ rs.drop k).length := by omega
      have hP := OwnR.put ho hkl 1 (by omega) (1 - rs[k].w)
      rw [turn_step hlt hkl] at hP
      obtain ⟨b9, off9, r9, e9, er9, _, _, hc9, _⟩ := ho.recs.at_ hkl
      obtain ⟨g2, u2, rfl, hgb2, hcu, hfu, hoP, hgP⟩ := hP
      obtain ⟨rfl, rfl⟩ : g2 = b9 ∧ 0 = off9 := by simpa using e9
      obtain rfl : rs[k] = r9 := by rw [turn_at hlt] at er9; exact Option.some.inj er9
      have hr := recB_facts (recsB_at HV.out (List.getElem?_eq_getElem hlt))
      obtain ⟨x, hx⟩ : ∃ x, x = rs[k].w := ⟨_, rfl⟩
      rw [← hx] at hc9 hoP hr
      rw [Nat.zero_add] at hc9
      have hxw : IntKind.i64.wrap (1 - x) = 1 - x := IntWalk.i64_in _ (by omega)
      have HP := Lib.hid hoP
      have hbS := hb.setCell (p := ⟨g2, k * 3 + 1, none⟩) hgb2 (.int .i64 (1 - x))
      clear hx hoP hgP er9 ho hcu hll e9
      go_wp2
      go_roundw
      case rel => exact ⟨k + 1, by omega, by go_num, HP.out, hbS⟩
      case measure => simp [intOf]; omega
    · have he : k = rs.length := by omega
      subst he
      rw [List.drop_of_length_le (Nat.le_refl _), List.append_nil, List.take_length] at ho
      go_wp2_with fail
      refine (HI.out _ ho.recs (hT4.below hb)).mono ?_
      rintro e w9 ⟨rfl, b9⟩
      have BE := B4.trans ((hb.trans (b9.mono hb.size)).mono B4.size)
      by_cases h0 : rs.length = 0
      · obtain rfl := HE.out h0
        have h0' : (rs.length : Int) = 0 := by omega
        go_wp2
        go_ret
        exact ⟨rfl, BE⟩
      · have hne : (T2 == T1) = false := by simpa using HF.out h0
        have hn0 : ((rs.length : Int) == 0) = false := beq_eq_false_iff_ne.2 (by omega)
        go_wp2
        go_ret
        exact ⟨rfl, BE⟩

set_option linter.unusedVariables false in
set_option maxRecDepth 100000 in
theorem FnRecordsTextWay_lifted (os : Os) (started : os.Started) (H : Type) (enc : TypeId × Value → H) :
    ReturnsInHanded {} Tryd.checked os 4 .any (fun w args => (Rows.fnRecordsTextWaySpec.pre enc Tryd.prog Tryd.f4 [] false w args ∧ laidMetH Tryd.prog laid3 w) ∧ sizedMet enc Tryd.prog Tryd.f4 (OpenSpec.ofChange Rows.fnRecordsTextWaySpec) false w args)
      (Rows.fnRecordsTextWaySpec.post enc Tryd.prog Tryd.f4 false true false false) := by
  refine returnsInHanded_of_change_and (C := Tryd.checked) (X := fun w _ => laidMetH Tryd.prog laid3 w) (fun _ _ _ hh h => h.of_heap hh) own_knob started (by kernel_rfl) Tryd.func4
    (ChangeSpec.witness_shaped (enc := enc) (C := Tryd.checked) (os := os) (X := fun w _ => laidMetH Tryd.prog laid3 w) false (World.doorLaid Tryd.prog 400 os) #[.slice none 0 0] 8 rfl (World.shaped_of_RefB (by kernel_rfl) (by kernel_rfl)) (by kernel_rfl) (by kernel_rfl) (by kernel_rfl) (door_met os _)) ?_
  intro W base args ds gs before hval0 hW _ _ hL _
  have hval : ∀ (j : Nat) t v, Tryd.f4.params[j]? = some t → args[j]? = some v → Value.okWide Tryd.prog W .any base t v := hval0
  have hW' := hW
  obtain ⟨p, q, hA0, hV, rfl, hfz, hnd⟩ := hW
  have hA : DataW.TrodAll enc Tryd.prog W 0 (fun _ => true) true Tryd.f4.params.toList args.toList ds p := hA0
  rw [Tryd.params4] at hA hval
  obtain ⟨v0, vs0, d0, ds0, p0, q0, hargs, rfl, rfl, h0, r0⟩ := trodAll_cons hA
  obtain ⟨rfl, rfl, rfl⟩ := trodAll_nil r0
  obtain rfl : args = #[v0] := by cases args; simp_all
  obtain ⟨rfl, rfl⟩ := trodVars_none hV
  have k0 := h0
  have lt0 : ∀ x ∈ p0, x.block < W.heap.size := by obtain ⟨m, hm⟩ := k0; exact DataW.trod_lt m _ _ _ hm
  obtain ⟨a0, len0, cap0, rfl⟩ := okWide_slice Tryd.underlying22 (hval 0 22 v0 rfl rfl)
  obtain ⟨z0, rfl, lc0, lm0, rz0⟩ : ∃ z : List Int, len0 = z.length ∧ z.length ≤ cap0 ∧ cap0 ≤ maxLen ∧ Bytes W a0 z := by
    obtain ⟨fuel, hf⟩ := h0
    obtain ⟨ao, cap, z, e, h1, h2, h3⟩ := rd_bytes hf
    simp [Value.cells] at e
    obtain ⟨rfl, rfl, rfl⟩ := e
    exact ⟨z, rfl, h1, h2, h3⟩
  have lb0 : z0.length ≤ cap0 := lc0
  clear hA0 hval0
  refine (FnRecordsTextWay_walk a0 z0 cap0 W rz0 lc0 lm0 (tab_of_laid hL)).mono fun e W' ⟨he, bel⟩ => ?_
  subst he
  exact ⟨_, rfl, _, _, _, [], _, [], hW', trodAll_mk1 (shut_bool Tryd.underlying4 _), (trodAll_cons_mk (Below.trod laid_out (by kernel_rfl) (of_decide_eq_true (by kernel_rfl)) k0 bel lt0) trodAll_mk0), rfl, bel.frame _, fun h => by cases h⟩

theorem FnRecordsTextWay_row : Rows.FnRecordsTextWaySaid :=
  OpenClaim.holds_of_wide 4 Tryd.f4 rfl rfl rfl rfl rfl rfl rfl ⟨rfl, rfl, rfl, rfl, rfl⟩ rfl rfl rfl rfl rfl (by kernel_rfl) Tryd.func4 (by kernel_rfl)
    (of_decide_eq_true (by kernel_rfl)) (by unfold Func.isWrapper; first | (rw [if_pos (by decide +kernel)]; kernel_rfl) | (rw [if_neg (by decide +kernel)]; exact ⟨rfl, rfl⟩))
    (fun os started H enc _ => FnRecordsTextWay_lifted os started H enc)

theorem FnRecordsTextWay_holds : Rows.FnRecordsTextWayCardSaid :=
  Claim7.holds_tied_plain_at .later [] [.data, .data, .data] true (true, "e485033ee79d6da8a938c3263f1e07e4051bc5923f5ad77c9f6c45ce22ea5d54") false
    FnRecordsTextWay_row (fun _ h => by cases h) (by kernel_rfl) (fun _ h => by cases h) fnRecordsTextWay_row_tie rfl ⟨rfl, rfl⟩ (by kernel_rfl) rfl
    (fun f fn hf hfn => by
      obtain rfl : f = 4 := Option.some.inj ((show Tryd.prog.funcNamed "loop.example/serialpair/laws.FnRecordsTextWay" = some 4 by kernel_rfl).symm.trans hf) |>.symm
      obtain rfl : fn = Tryd.f4 := (Option.some.inj (Tryd.func4.symm.trans hfn)).symm
      exact ⟨by kernel_rfl, fun j t ht => by
        rw [Tryd.params4] at ht
        have h3 : t = 22 := by
          rcases j with _ | j
          · simpa using ht.symm
          · simp at ht
        subst h3
        exact (show Tryd.prog.wantsStandIn 22 = false by kernel_rfl)⟩)
    (by kernel_rfl)
end Go.Proofs.YtnapcacgdidgdaaDoor
