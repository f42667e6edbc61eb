/- FnRecordsText: for every code, each record has a line of its own in the text. No conditions beyond the statement's own. -/
import Derived.Test.YtnapcacgdidgdaaDoorTabs
import Derived.Test.YtnapcacgdidgdaaDoorTextS
import Derived.Test.YtnapcacgdidgdaaDoorRecsAt
import Derived.Test.YtnapcacgdidgdaaDoorCards
import Derived.Test.YtnapcacgdidgdaaDoorTie
import Derived.SevenTiedAt
namespace Go.Proofs.YtnapcacgdidgdaaDoor
open Go Go.ChangeShapes Go.WideShapes Go.ChangeAt Go.RowKit

theorem line_index (r : Rec) (W : World) : (Instr.index 9 (.string ⟨(lineOf r).toArray⟩) (.int .i64 (((lineOf r).length : Int) - 1))).run Tryd.prog W = .ok (.int .u8 10) W := by
  have hl := lineOf_eq r
  have hs : (ByteArray.mk (lineOf r).toArray).size = (lineOf r).length := by show (lineOf r).toArray.size = _; simp
  rw [run_index_string W _ _ _ _ Tryd.underlying9, dif_pos ⟨by omega, by rw [hs]; omega⟩]
  have h1 := lineOf_last r
  have h2 : (((lineOf r).length : Int) - 1).toNat = (lineOf r).length - 1 := by omega
  have h3 : (ByteArray.mk (lineOf r).toArray)[(((lineOf r).length : Int) - 1).toNat]'(by rw [hs]; omega) = 10 := by
    show (lineOf r).toArray[(((lineOf r).length : Int) - 1).toNat]'_ = 10
    simp only [List.getElem_toArray, h2]
    exact (List.getElem?_eq_some_iff.1 h1).2
  rw [h3]
  rfl

set_option maxHeartbeats 2000000 in
set_option maxRecDepth 100000 in
theorem FnRecordsText_walk (ao : Option Addr) (bs : List Int) (c : Nat) (w : World) (h : Bytes w ao bs) (hc : bs.length ≤ c) (_hm : c ≤ maxLen) (hT : Tab w) :
    Calls Tryd.prog 3 #[.slice ao bs.length c] w fun e w' => e = .returned (.bool true) ∧ Below w.heap.size w w' := by
  unfold maxLen at _hm
  by_cases hn : (bs.length : Int) ≤ 1048576
  case neg =>
    have hn' : (1048576 : Int) < (bs.length : Int) := by omega
    go_enter Tryd.func3, Tryd.ntmps3
    go_wp2
    go_ret
    exact ⟨rfl, Below.refl _ _⟩
  go_enter Tryd.func3, Tryd.ntmps3
  go_wp2_with fail
  refine (drawRecordsText_any ao bs c w h hc (by omega)).mono ?_
  rintro e w1 ⟨a1, c1, rs, rfl, o1, hl, b1⟩
  go_wp2_with fail
  refine (implRecordsText_any a1 rs c1 w1 o1.recs (by omega) (hT.below b1)).mono ?_
  rintro e w2 ⟨rfl, b2⟩
  have B2 := below_join b1 b2
  have o2 := o1.below b2
  go_wp2_with fail
  refine (specRecordsText_any a1 rs c1 w2 o2.recs (by omega)).mono ?_
  rintro e w3 ⟨rfl, b3⟩
  have B3 := below_join B2 b3
  have o3 := o2.below b3
  clear b1 b2 b3 B2 o1 o2
  go_wp2_with fail
  refine (specRecordsValid_any a1 rs c1 w3 o3.recs (by omega)).mono ?_
  rintro e w4 ⟨rfl, b4⟩
  have B4 := below_join B3 b4
  have o4 := o3.below b4
  clear b4 B3 o3
  cases hv : recsB rs
  · go_wp2
    go_ret
    exact ⟨rfl, B4⟩
  rw [textL_yes hv]
  have hT4 := hT.below B4
  have r4 := o4.recs
  have hcap := own_cap o4
  have hcm := own_capmax o4
  go_wp2
  go_loopw [6, 7] (fun v i wr => ∃ k : Nat, k ≤ rs.length ∧ i = .int .i64 k ∧ v = .string ⟨(textOf (rs.take k)).toArray⟩ ∧ Below w4.heap.size w4 wr) (fun _ i _ => rs.length - (intOf i).toNat)
  case atStart => exact ⟨0, Nat.zero_le _, rfl, rfl, Below.refl _ _⟩
  case round =>
    obtain ⟨k, hk, rfl, rfl, hb⟩ := hrel
    by_cases hlt : k < rs.length
    · obtain ⟨r, hr⟩ : ∃ r, rs[k]? = some r := ⟨_, List.getElem?_eq_getElem hlt⟩
      obtain ⟨ad, rfl⟩ : ∃ ad : Addr, a1 = some ad := by
        rcases own_head o4 with ⟨_, h0, _⟩ | ⟨g, h1, h2, h3⟩
        · omega
        · exact ⟨_, h1⟩
      have r5 := recs_one_at (r4.below hb) hr
      have hT5 := hT4.below hb
      have hN := Lib.hid (textOf_snoc hr)
      have hml := lineOf_len (recsB_at hv hr)
      have hme := lineOf_eq r
      have hix := line_index r
      have hLl := textOf_take_len hv k
      have h1 := Lib.hid (textL_one hv hr)
      obtain ⟨M, hM⟩ : ∃ M, M = lineOf r := ⟨_, rfl⟩
      obtain ⟨L, hL⟩ : ∃ L, L = textOf (rs.take k) := ⟨_, rfl⟩
      rw [← hM] at hN hml hme hix h1
      rw [← hL] at hN hLl ⊢
      have hm1 : 1 ≤ M.length := by omega
      have hmw : IntKind.i64.wrap ((M.length : Int) - 1) = (M.length : Int) - 1 := IntWalk.i64_in _ (by omega)
      have hm0 : M.isEmpty = false := by
        cases M with
        | nil => simp at hm1
        | cons x M => rfl
      clear hM hL hr hme hv
      go_wp2_with fail
      refine (implRecordsText_any (some (ad.add (k * 3))) [r] (c1 - k) wr r5 (by simp) hT5).mono ?_
      rintro e w6 ⟨rfl, b6⟩
      rw [h1.out]
      go_wp2
      go_roundw
      case rel => exact ⟨k + 1, by omega, by go_num, by rw [hN.out, ByteArray.mk_append_mk], hb.trans (b6.mono hb.size)⟩
      case measure => simp [intOf]; omega
    · have he : k = rs.length := by omega
      subst he
      go_wp2
      go_ret
      exact ⟨rfl, B4.trans (hb.mono B4.size)⟩

set_option linter.unusedVariables false in
set_option maxRecDepth 100000 in
theorem FnRecordsText_lifted (os : Os) (started : os.Started) (H : Type) (enc : TypeId × Value → H) :
    ReturnsInHanded {} Tryd.checked os 3 .any (fun w args => (Rows.fnRecordsTextSpec.pre enc Tryd.prog Tryd.f3 [] false w args ∧ laidMetH Tryd.prog laid3 w) ∧ sizedMet enc Tryd.prog Tryd.f3 (OpenSpec.ofChange Rows.fnRecordsTextSpec) false w args)
      (Rows.fnRecordsTextSpec.post enc Tryd.prog Tryd.f3 false true false false) := by
  refine returnsInHanded_of_change_and (C := Tryd.checked) (X := fun w _ => laidMetH Tryd.prog laid3 w) (fun _ _ _ hh h => h.of_heap hh) own_knob started (by kernel_rfl) Tryd.func3
    (ChangeSpec.witness_shaped (enc := enc) (C := Tryd.checked) (os := os) (X := fun w _ => laidMetH Tryd.prog laid3 w) false (World.doorLaid Tryd.prog 400 os) #[.slice none 0 0] 8 rfl (World.shaped_of_RefB (by kernel_rfl) (by kernel_rfl)) (by kernel_rfl) (by kernel_rfl) (by kernel_rfl) (door_met os _)) ?_
  intro W base args ds gs before hval0 hW _ _ hL _
  have hval : ∀ (j : Nat) t v, Tryd.f3.params[j]? = some t → args[j]? = some v → Value.okWide Tryd.prog W .any base t v := hval0
  have hW' := hW
  obtain ⟨p, q, hA0, hV, rfl, hfz, hnd⟩ := hW
  have hA : DataW.TrodAll enc Tryd.prog W 0 (fun _ => true) true Tryd.f3.params.toList args.toList ds p := hA0
  rw [Tryd.params3] at hA hval
  obtain ⟨v0, vs0, d0, ds0, p0, q0, hargs, rfl, rfl, h0, r0⟩ := trodAll_cons hA
  obtain ⟨rfl, rfl, rfl⟩ := trodAll_nil r0
  obtain rfl : args = #[v0] := by cases args; simp_all
  obtain ⟨rfl, rfl⟩ := trodVars_none hV
  have k0 := h0
  have lt0 : ∀ x ∈ p0, x.block < W.heap.size := by obtain ⟨m, hm⟩ := k0; exact DataW.trod_lt m _ _ _ hm
  obtain ⟨a0, len0, cap0, rfl⟩ := okWide_slice Tryd.underlying22 (hval 0 22 v0 rfl rfl)
  obtain ⟨z0, rfl, lc0, lm0, rz0⟩ : ∃ z : List Int, len0 = z.length ∧ z.length ≤ cap0 ∧ cap0 ≤ maxLen ∧ Bytes W a0 z := by
    obtain ⟨fuel, hf⟩ := h0
    obtain ⟨ao, cap, z, e, h1, h2, h3⟩ := rd_bytes hf
    simp [Value.cells] at e
    obtain ⟨rfl, rfl, rfl⟩ := e
    exact ⟨z, rfl, h1, h2, h3⟩
  have lb0 : z0.length ≤ cap0 := lc0
  clear hA0 hval0
  refine (FnRecordsText_walk a0 z0 cap0 W rz0 lc0 lm0 (tab_of_laid hL)).mono fun e W' ⟨he, bel⟩ => ?_
  subst he
  exact ⟨_, rfl, _, _, _, [], _, [], hW', trodAll_mk1 (shut_bool Tryd.underlying4 _), (trodAll_cons_mk (Below.trod laid_out (by kernel_rfl) (of_decide_eq_true (by kernel_rfl)) k0 bel lt0) trodAll_mk0), rfl, bel.frame _, fun h => by cases h⟩

theorem FnRecordsText_row : Rows.FnRecordsTextSaid :=
  OpenClaim.holds_of_wide 3 Tryd.f3 rfl rfl rfl rfl rfl rfl rfl ⟨rfl, rfl, rfl, rfl, rfl⟩ rfl rfl rfl rfl rfl (by kernel_rfl) Tryd.func3 (by kernel_rfl)
    (of_decide_eq_true (by kernel_rfl)) (by unfold Func.isWrapper; first | (rw [if_pos (by decide +kernel)]; kernel_rfl) | (rw [if_neg (by decide +kernel)]; exact ⟨rfl, rfl⟩))
    (fun os started H enc _ => FnRecordsText_lifted os started H enc)

theorem FnRecordsText_holds : Rows.FnRecordsTextCardSaid :=
  Claim7.holds_tied_plain_at .later [] [.data, .data, .data] true (true, "e485033ee79d6da8a938c3263f1e07e4051bc5923f5ad77c9f6c45ce22ea5d54") false
    FnRecordsText_row (fun _ h => by cases h) (by kernel_rfl) (fun _ h => by cases h) fnRecordsText_row_tie rfl ⟨rfl, rfl⟩ (by kernel_rfl) rfl
    (fun f fn hf hfn => by
      obtain rfl : f = 3 := Option.some.inj ((show Tryd.prog.funcNamed "loop.example/serialpair/laws.FnRecordsText" = some 3 by kernel_rfl).symm.trans hf) |>.symm
      obtain rfl : fn = Tryd.f3 := (Option.some.inj (Tryd.func3.symm.trans hfn)).symm
      exact ⟨by kernel_rfl, fun j t ht => by
        rw [Tryd.params3] at ht
        have h3 : t = 22 := by
          rcases j with _ | j
          · simpa using ht.symm
          · simp at ht
        subst h3
        exact (show Tryd.prog.wantsStandIn 22 = false by kernel_rfl)⟩)
    (by kernel_rfl)
end Go.Proofs.YtnapcacgdidgdaaDoor
