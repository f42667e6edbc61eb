/- FnRecordsPart: for every code and every further code, records may be missing, and a wrong one is found. No condition. -/
import Derived.Test.YtnapcacgdidgdaaTree3
import Derived.Test.YtnapcacgdidgdaaSaidB
namespace Go.Proofs.Ytnapcacgdidgdaa
open Go.ChangeShapes Go.WideShapes Go.ChangeAt Go.RowKit

theorem Recs.take {w : World} {ao : Option Addr} {rs : List Rec} (h : Recs w ao rs) (m : Nat) : Recs w ao (rs.take m) := by
  rcases h with h | ⟨b, off, h, hc⟩
  · left
    have : rs = [] := by
      cases rs with
      | nil => rfl
      | cons r rs => simp [recCells] at h
    subst this; simp
  · refine .inr ⟨b, off, h, fun j u hu => hc j u ?_⟩
    have e : rs.flatMap recCells = (rs.take m).flatMap recCells ++ (rs.drop m).flatMap recCells := by rw [← List.flatMap_append, List.take_append_drop]
    rw [e, List.getElem?_append_left (List.getElem?_eq_some_iff.1 hu).1]
    exact hu
theorem Recs.drop {w : World} {b off : Nat} {rs : List Rec} (h : Recs w (some ⟨b, off, none⟩) rs) (m : Nat) (hm : m ≤ rs.length) : Recs w (some ⟨b, off + m * 3, none⟩) (rs.drop m) := by
  rcases h with h | ⟨b', off', h, hc⟩
  · left
    have : rs = [] := by
      cases rs with
      | nil => rfl
      | cons r rs => simp [recCells] at h
    subst this; simp
  · injection h with h
    injection h with h1 h2 _
    subst h1 h2
    refine .inr ⟨b, off + m * 3, rfl, fun j u hu => ?_⟩
    rw [Nat.add_assoc]
    refine hc (m * 3 + j) u ?_
    have e : rs.flatMap recCells = (rs.take m).flatMap recCells ++ (rs.drop m).flatMap recCells := by rw [← List.flatMap_append, List.take_append_drop]
    have hl : ((rs.take m).flatMap recCells).length = m * 3 := by rw [flatN_length recCells 3 recCells_length, List.length_take, Nat.min_eq_left hm]
    rw [e, List.getElem?_append_right (by omega), hl, Nat.add_sub_cancel_left]
    exact hu
theorem recs_dropA {w : World} {ad : Addr} {rs : List Rec} (h : Recs w (some ad) rs) (m : Nat) (hm : m ≤ rs.length) : Cells w (some (ad.add (m * 3))) ((rs.drop m).flatMap recCells) := by
  have hh := h
  rcases hh with h0 | ⟨b, off, h1, _⟩
  · left
    have : rs = [] := by
      cases rs with
      | nil => rfl
      | cons r rs => simp [recCells] at h0
    subst this; simp
  · injection h1 with h1
    subst h1
    rw [Addr.add_lit]
    exact Recs.drop h m hm
theorem recsB_part {rs : List Rec} (h : recsB rs = true) (k : Nat) : recsB (rs.take k ++ rs.drop (k + 1)) = true := by
  rw [← List.eraseIdx_eq_take_drop_succ]
  exact recsB_sub h (List.eraseIdx_sublist _ _)
theorem recsB_wrong {rs : List Rec} {k : Nat} (hk : k < rs.length) : recsB (rs.set k (recSet rs[k] 2 256)) = false := by
  refine recsB_no fun h => ?_
  have := (h.2 k (by rw [List.length_set]; exact hk) (recSet rs[k] 2 256) (by rw [List.getElem?_set_self hk])).1
  simp [recB, recSet] at this

set_option maxHeartbeats 2000000 in
set_option maxRecDepth 100000 in
theorem FnRecordsPart_walk (ao : Option Addr) (bs : List Int) (c : Nat) (a9 : Option Addr) (z1 : List Int) (c9 : Nat) (w : World) (h : Bytes w ao bs) (hc : bs.length ≤ c) (_hm : c ≤ maxLen) (_rz1 : Bytes w a9 z1) (_lc1 : z1.length ≤ c9) (_lm1 : c9 ≤ maxLen) :
    Calls Try.prog 3 #[.slice ao bs.length c, .slice a9 z1.length c9] w fun e w' => e = .returned (.bool true) ∧ Below w.heap.size w w' := by
  unfold maxLen at _hm _lm1
  by_cases hn : (bs.length : Int) ≤ 1048576
  case neg =>
    have hn' : (1048576 : Int) < (bs.length : Int) := by omega
    go_enter Try.func3, Try.ntmps3
    go_wp2
    go_ret
    exact ⟨rfl, Below.refl _ _⟩
  by_cases hn1 : (z1.length : Int) ≤ 1048576
  case neg =>
    have hn' : (1048576 : Int) < (z1.length : Int) := by omega
    go_enter Try.func3, Try.ntmps3
    go_wp2
    go_ret
    exact ⟨rfl, Below.refl _ _⟩
  go_enter Try.func3, Try.ntmps3
  go_wp2_with fail
  refine (drawRecordsValid_any ao bs c w h hc (by omega)).mono ?_
  rintro e w1 ⟨a1, c1, rs, rfl, o1, hl, b1⟩
  have r1 := o1.recs
  go_wp2_with fail
  refine (implRecordsValid_any a1 rs c1 w1 r1 (by omega)).mono ?_
  rintro e w2 ⟨rfl, b2⟩
  have B2 := below_join b1 b2
  have r1 := r1.below b2
  go_wp2_with fail
  refine (specRecordsValid_any a1 rs c1 w2 r1 (by omega)).mono ?_
  rintro e w3 ⟨rfl, b3⟩
  have B3 := below_join B2 b3
  have r1 := r1.below b3
  have o3 := (o1.below b2).below b3
  clear b1 b2 b3 B2 o1
  cases hv : recsB rs
  · go_wp2
    go_ret
    exact ⟨rfl, B3⟩
  by_cases hz : rs.length = 0
  · have hzb : (rs.length : Int) = 0 := by omega
    go_wp2
    go_ret
    exact ⟨rfl, B3⟩
  have hzb : ((rs.length : Int) == 0) = false := beq_eq_false_iff_ne.2 (by omega)
  have hm0 : 0 ≤ (z1.length : Int) % (rs.length : Int) := Int.emod_nonneg _ (by omega)
  have hm1 : (z1.length : Int) % (rs.length : Int) < (rs.length : Int) := Int.emod_lt_of_pos _ (by omega)
  obtain ⟨k, hM⟩ : ∃ k : Nat, (z1.length : Int) % (rs.length : Int) = (k : Int) := Int.eq_ofNat_of_zero_le hm0
  rw [hM] at hm1
  have hkl : k < rs.length := by omega
  have hk0 : (0 : Int) ≤ (k : Int) := by omega
  obtain ⟨j, hj⟩ : ∃ j : Nat, (k : Int) + 1 = (j : Int) := ⟨k + 1, by omega⟩
  have hjk : j = k + 1 := by omega
  have hwr : IntKind.i64.wrap (j : Int) = (j : Int) := IntWalk.i64_in _ (by omega)
  have hj0 : (0 : Int) ≤ (j : Int) := by omega
  have hj1 : (j : Int) ≤ (rs.length : Int) := by omega
  have hcap := own_cap o3
  have hk3 : (k : Int) ≤ (c1 : Int) := by omega
  have hc0 : c1 ≠ 0 := by omega
  have hcc : (rs.length : Int) ≤ (c1 : Int) := by omega
  have hcm := own_capmax o3
  obtain ⟨ad, rfl, hgb, hgs⟩ : ∃ ad : Addr, a1 = some ad ∧ w.heap.size ≤ ad.block ∧ ad.block < w3.heap.size := by
    rcases own_head o3 with ⟨_, h0, _⟩ | ⟨g, h1, h2, h3⟩
    · omega
    · exact ⟨_, h1, h2, h3⟩
  have hkj : (k : Int) ≤ (j : Int) := by omega
  have HV1 := Lib.hid (show recsB (rs.take k ++ rs.drop j) = true by rw [hjk]; exact recsB_part hv k)
  have HV2 := Lib.hid (recsB_wrong hkl)
  obtain ⟨X, hX⟩ : ∃ X, X = rs.take k ++ rs.drop j := ⟨_, rfl⟩
  rw [← hX] at HV1
  have HX1 := Lib.hid (show k + (rs.length - j) = X.length by rw [hX, List.length_append, List.length_take, List.length_drop]; omega)
  have HX2 := Lib.hid (show (rs.take k).flatMap recCells ++ (rs.drop j).flatMap recCells = X.flatMap recCells by rw [hX, List.flatMap_append])
  have hXl : X.length ≤ 31 := by have := HX1.out; omega
  have HO := Lib.hid o3
  have HJ := Lib.hid hjk
  clear hX hm0 hz o3
  by_cases hck : c1 = j
  · have HNW := Lib.hid (fun v (_ : Below w3.heap.size w3 v) => show Cells v (some ad) ((rs.drop j).flatMap recCells) by rw [List.drop_of_length_le (by omega)]; exact .inl rfl)
    clear hjk
    subst hck
    go_wp2_with fail
    clear hv
    go_region_held3 (fun v => Below w3.heap.size w3 v)
      (repeat (first | assumption | exact Below.refl _ _ | refine Below.drew ?_ | refine below_allocB ?_ (Nat.le_refl _) _))
      (first
        | (refine step_append_row (by rfl) _ _ _ (by rfl) w3.heap.size 27 _ 3 24 Try.underlying23 rec_info rfl (by decide) (some ⟨_, 0, none⟩) 0 0 [] (by rfl) ?ho (some ad) k c1 ((rs.take k).flatMap recCells) ?hv ?hn (by rw [flatN_length recCells 3 recCells_length, List.length_take]; omega) (recs_one _) (fun e => by cases e) (by simp only [maxLen]; omega) (by omega) ?hb ?_
           case hv => first | rfl | (simp [Act.eval, *]; done)
           case ho => exact own_made_at _ #[] _ _ 0 _ _ rfl (by first | exact Nat.le_refl _ | (simp; done)) (by simp) rfl
           case hn => exact Recs.take (r1.below (by assumption)) _
           case hb => exact Below.size (by assumption)
           intro aA dA wA hoA hgA
           rw [Nat.zero_add, List.nil_append] at hoA
           rw [Nat.zero_add]
           have bA : Below w3.heap.size w3 wA := below_growB (by assumption) hgA (Nat.le_refl _) (fun k hk => by simp [Value.ownBlock] at hk; omega))
        | (refine step_append_row (by rfl) _ _ _ (by rfl) w3.heap.size 27 _ 3 24 Try.underlying23 rec_info rfl (by decide) aA k dA ((rs.take k).flatMap recCells) (by rfl) hoA (some ad) (rs.length - c1) (0) ((rs.drop c1).flatMap recCells) ?hv ?hn (by rw [flatN_length recCells 3 recCells_length, List.length_drop]) (recs_one _) (fun e => by cases e) (by simp only [maxLen]; omega) (by omega) ?hb ?_
           case hv => first | rfl | (simp [Act.eval, *]; done)
           case hn => exact HNW.out _ (by assumption)
           case hb => exact Below.size (by assumption)
           intro aC dC wC hoC hgC
           have bC : Below w3.heap.size w3 wC := below_growB (by assumption) hgC (Nat.le_refl _) (fun k hk => (hoA.lt k hk).1)
           rw [HX1.out]
           rw [HX1.out, HX2.out] at hoC
           have oX : OwnR wC w3.heap.size aC dC X := hoC))
    have rC := r1.below bC
    go_wp2_with (
      at_builtin
      refine name_list fun W hW => ?_
      have hoW : W.ownsRow wC.heap.size 27 3 (.slice (some ⟨wC.heap.size, 0, none⟩) 0 0) 0 [] := (by rw [hW]; exact own_made_at wC #[] _ _ 0 _ _ rfl (Nat.le_refl _) (by simp) rfl)
      have hxW : Recs W (some ad) rs := (by rw [hW]; exact rC.keep (Keeps.alloc _ _))
      have bW : Below wC.heap.size wC W := (by rw [hW]; exact (Below.refl _ _).alloc (Nat.le_refl _) _)
      refine wpList_append_row W rfl _ _ _ rfl wC.heap.size 27 _ 3 24 Try.underlying23 rec_info rfl (by decide) (some ⟨wC.heap.size, 0, none⟩) 0 0 [] (by rfl) hoW (some ad) rs.length c1 (rs.flatMap recCells) (by rfl) hxW (flatN_length recCells 3 recCells_length rs) (recs_one rs) (fun e => by cases e) (by simp only [maxLen]; omega) (by omega) bW.size ?_
      intro aY cY wY hoY hgY
      rw [Nat.zero_add, List.nil_append] at hoY
      rw [Nat.zero_add]
      have bY := below_append bW hoW hgY bW.size
      have oY : OwnR wY wC.heap.size aY cY rs := hoY
      obtain ⟨g2, u2, rfl, hgb2, hcu, hfu, hoP, hgP⟩ := OwnR.put oY hkl 2 (by omega) 256
      have HP := Lib.hid hoP
      have HcY := Lib.hid (own_cap hoP)
      clear hW hoW hxW bW hgY hoY oY hoP hgP)
    have bS := bY.setCell (p := ⟨g2, k * 3 + 2, none⟩) hgb2 (.int .i64 256)
    have HY := Lib.hid (fun v (hR : Recs v (some ⟨g2, 0, none⟩) (rs.set k (recSet rs[k] 2 256))) => implRecordsValid_any (some ⟨g2, 0, none⟩) (rs.set k (recSet rs[k] 2 256)) cY v hR (by rw [List.length_set]; omega))
    rw [List.length_set, HV2.out] at HY
    have HXv := Lib.hid (fun v h => implRecordsValid_any aC X dC v h (by omega))
    rw [HV1.out] at HXv
    refine (HXv.out _ (Recs.below oX.recs bS)).mono ?_
    rintro e w9 ⟨rfl, b9⟩
    have bS9 := below_join bS b9
    have hP9 := Recs.below HP.out.recs b9
    have BC := B3.trans (bC.mono B3.size)
    go_wp2_with fail
    refine (HY.out _ hP9).mono ?_
    rintro e w10 ⟨rfl, b10⟩
    go_wp2
    go_ret
    exact ⟨rfl, (BC.trans (bS9.mono BC.size)).trans (b10.mono (Nat.le_trans BC.size bS9.size))⟩
  · have HNW := Lib.hid (fun v (b : Below w3.heap.size w3 v) => show Cells v (some (ad.add (j * 3))) ((rs.drop j).flatMap recCells) from recs_dropA (r1.below b) j (by omega))
    clear hjk
    go_wp2_with fail
    clear hv
    go_region_held3 (fun v => Below w3.heap.size w3 v)
      (repeat (first | assumption | exact Below.refl _ _ | refine Below.drew ?_ | refine below_allocB ?_ (Nat.le_refl _) _))
      (first
        | (refine step_append_row (by rfl) _ _ _ (by rfl) w3.heap.size 27 _ 3 24 Try.underlying23 rec_info rfl (by decide) (some ⟨_, 0, none⟩) 0 0 [] (by rfl) ?ho (some ad) k c1 ((rs.take k).flatMap recCells) ?hv ?hn (by rw [flatN_length recCells 3 recCells_length, List.length_take]; omega) (recs_one _) (fun e => by cases e) (by simp only [maxLen]; omega) (by omega) ?hb ?_
           case hv => first | rfl | (simp [Act.eval, *]; done)
           case ho => exact own_made_at _ #[] _ _ 0 _ _ rfl (by first | exact Nat.le_refl _ | (simp; done)) (by simp) rfl
           case hn => exact Recs.take (r1.below (by assumption)) _
           case hb => exact Below.size (by assumption)
           intro aA dA wA hoA hgA
           rw [Nat.zero_add, List.nil_append] at hoA
           rw [Nat.zero_add]
           have bA : Below w3.heap.size w3 wA := below_growB (by assumption) hgA (Nat.le_refl _) (fun k hk => by simp [Value.ownBlock] at hk; omega))
        | (refine step_append_row (by rfl) _ _ _ (by rfl) w3.heap.size 27 _ 3 24 Try.underlying23 rec_info rfl (by decide) aA k dA ((rs.take k).flatMap recCells) (by rfl) hoA (some (ad.add (j * 3))) (rs.length - j) (c1 - j) ((rs.drop j).flatMap recCells) ?hv ?hn (by rw [flatN_length recCells 3 recCells_length, List.length_drop]) (recs_one _) (fun e => by cases e) (by simp only [maxLen]; omega) (by omega) ?hb ?_
           case hv => first | rfl | (simp [Act.eval, *]; done)
           case hn => exact HNW.out _ (by assumption)
           case hb => exact Below.size (by assumption)
           intro aC dC wC hoC hgC
           have bC : Below w3.heap.size w3 wC := below_growB (by assumption) hgC (Nat.le_refl _) (fun k hk => (hoA.lt k hk).1)
           rw [HX1.out]
           rw [HX1.out, HX2.out] at hoC
           have oX : OwnR wC w3.heap.size aC dC X := hoC))
    have rC := r1.below bC
    go_wp2_with (
      at_builtin
      refine name_list fun W hW => ?_
      have hoW : W.ownsRow wC.heap.size 27 3 (.slice (some ⟨wC.heap.size, 0, none⟩) 0 0) 0 [] := (by rw [hW]; exact own_made_at wC #[] _ _ 0 _ _ rfl (Nat.le_refl _) (by simp) rfl)
      have hxW : Recs W (some ad) rs := (by rw [hW]; exact rC.keep (Keeps.alloc _ _))
      have bW : Below wC.heap.size wC W := (by rw [hW]; exact (Below.refl _ _).alloc (Nat.le_refl _) _)
      refine wpList_append_row W rfl _ _ _ rfl wC.heap.size 27 _ 3 24 Try.underlying23 rec_info rfl (by decide) (some ⟨wC.heap.size, 0, none⟩) 0 0 [] (by rfl) hoW (some ad) rs.length c1 (rs.flatMap recCells) (by rfl) hxW (flatN_length recCells 3 recCells_length rs) (recs_one rs) (fun e => by cases e) (by simp only [maxLen]; omega) (by omega) bW.size ?_
      intro aY cY wY hoY hgY
      rw [Nat.zero_add, List.nil_append] at hoY
      rw [Nat.zero_add]
      have bY := below_append bW hoW hgY bW.size
      have oY : OwnR wY wC.heap.size aY cY rs := hoY
      obtain ⟨g2, u2, rfl, hgb2, hcu, hfu, hoP, hgP⟩ := OwnR.put oY hkl 2 (by omega) 256
      have HP := Lib.hid hoP
      have HcY := Lib.hid (own_cap hoP)
      clear hW hoW hxW bW hgY hoY oY hoP hgP)
    have bS := bY.setCell (p := ⟨g2, k * 3 + 2, none⟩) hgb2 (.int .i64 256)
    have HY := Lib.hid (fun v (hR : Recs v (some ⟨g2, 0, none⟩) (rs.set k (recSet rs[k] 2 256))) => implRecordsValid_any (some ⟨g2, 0, none⟩) (rs.set k (recSet rs[k] 2 256)) cY v hR (by rw [List.length_set]; omega))
    rw [List.length_set, HV2.out] at HY
    have HXv := Lib.hid (fun v h => implRecordsValid_any aC X dC v h (by omega))
    rw [HV1.out] at HXv
    refine (HXv.out _ (Recs.below oX.recs bS)).mono ?_
    rintro e w9 ⟨rfl, b9⟩
    have bS9 := below_join bS b9
    have hP9 := Recs.below HP.out.recs b9
    have BC := B3.trans (bC.mono B3.size)
    go_wp2_with fail
    refine (HY.out _ hP9).mono ?_
    rintro e w10 ⟨rfl, b10⟩
    go_wp2
    go_ret
    exact ⟨rfl, (BC.trans (bS9.mono BC.size)).trans (b10.mono (Nat.le_trans BC.size bS9.size))⟩

set_option linter.unusedVariables false in
set_option maxRecDepth 100000 in
theorem FnRecordsPart_lifted (os : Os) (started : os.Started) (H : Type) (enc : TypeId × Value → H) :
    ReturnsInHanded {} Try.checked os 3 .any (Rows.fnRecordsPartSpec.pre6 enc Try.prog Try.f3 Rows.fnRecordsPartRow.domain false) (Rows.fnRecordsPartSpec.post enc Try.prog Try.f3 false true false false) := by
  refine returnsInHanded_of_change (C := Try.checked) own_knob started (by kernel_rfl) Try.func3
    (ChangeSpec.witness6 (enc := enc) (C := Try.checked) false ⟨#[], #[.slice none 0 0, .slice none 0 0], []⟩ 8 (by kernel_rfl) (by kernel_rfl) (by kernel_rfl) (by kernel_rfl)) ?_
  intro W base args ds gs before hval0 hW hcnd _
  have hval : ∀ (j : Nat) t v, Try.f3.params[j]? = some t → args[j]? = some v → Value.okWide Try.prog W .any base t v := hval0
  have hW' := hW
  obtain ⟨p, q, hA0, hV, rfl, hfz, hnd⟩ := hW
  have hA : DataW.TrodAll enc Try.prog W 0 (fun _ => true) true Try.f3.params.toList args.toList ds p := hA0
  rw [Try.params3] at hA hval
  obtain ⟨v0, vs0, d0, ds0, p0, q0, hargs, rfl, rfl, h0, r0⟩ := trodAll_cons hA
  obtain ⟨v1, vs1, d1, ds1, p1, q1, rfl, rfl, rfl, h1, r1⟩ := trodAll_cons r0
  obtain ⟨rfl, rfl, rfl⟩ := trodAll_nil r1
  obtain rfl : args = #[v0, v1] := by cases args; simp_all
  obtain ⟨rfl, rfl⟩ := trodVars_none hV
  have k0 := h0
  have lt0 : ∀ x ∈ p0, x.block < W.heap.size := by obtain ⟨m, hm⟩ := k0; exact DataW.trod_lt m _ _ _ hm
  obtain ⟨a0, len0, cap0, rfl⟩ := okWide_slice Try.underlying22 (hval 0 22 v0 rfl rfl)
  obtain ⟨z0, rfl, lc0, lm0, rz0⟩ : ∃ z : List Int, len0 = z.length ∧ z.length ≤ cap0 ∧ cap0 ≤ maxLen ∧ Bytes W a0 z := by
    obtain ⟨fuel, hf⟩ := h0
    obtain ⟨ao, cap, z, e, h1, h2, h3⟩ := rd_bytes hf
    simp [Value.cells] at e
    obtain ⟨rfl, rfl, rfl⟩ := e
    exact ⟨z, rfl, h1, h2, h3⟩
  have lb0 : z0.length ≤ cap0 := lc0
  have k1 := h1
  have lt1 : ∀ x ∈ p1, x.block < W.heap.size := by obtain ⟨m, hm⟩ := k1; exact DataW.trod_lt m _ _ _ hm
  obtain ⟨a1, len1, cap1, rfl⟩ := okWide_slice Try.underlying22 (hval 1 22 v1 rfl rfl)
  obtain ⟨z1, rfl, lc1, lm1, rz1⟩ : ∃ z : List Int, len1 = z.length ∧ z.length ≤ cap1 ∧ cap1 ≤ maxLen ∧ Bytes W a1 z := by
    obtain ⟨fuel, hf⟩ := h1
    obtain ⟨ao, cap, z, e, h1, h2, h3⟩ := rd_bytes hf
    simp [Value.cells] at e
    obtain ⟨rfl, rfl, rfl⟩ := e
    exact ⟨z, rfl, h1, h2, h3⟩
  have lb1 : z1.length ≤ cap1 := lc1
  clear hA0 hval0
  refine (FnRecordsPart_walk a0 z0 cap0 a1 z1 cap1 W rz0 lc0 lm0 rz1 lc1 lm1).mono fun e W' ⟨he, bel⟩ => ?_
  subst he
  exact ⟨_, rfl, _, _, _, [], _, [], hW', trodAll_mk1 (shut_bool Try.underlying4 _), (trodAll_cons_mk (Below.trod laid_out (by kernel_rfl) (of_decide_eq_true (by kernel_rfl)) k0 bel lt0) (trodAll_cons_mk (Below.trod laid_out (by kernel_rfl) (of_decide_eq_true (by kernel_rfl)) k1 bel lt1) trodAll_mk0)), rfl, bel.frame _, fun h => by cases h⟩

theorem FnRecordsPart_holds : Rows.FnRecordsPartSaid :=
  OpenClaim.holds_of_wide 3 Try.f3 rfl rfl rfl rfl rfl rfl rfl ⟨rfl, rfl, rfl, rfl, rfl⟩ rfl rfl rfl rfl rfl (by kernel_rfl) Try.func3 (by kernel_rfl)
    (of_decide_eq_true (by kernel_rfl)) (by unfold Func.isWrapper; first | (rw [if_pos (by decide +kernel)]; kernel_rfl) | (rw [if_neg (by decide +kernel)]; exact ⟨rfl, rfl⟩))
    (fun os started H enc _ => FnRecordsPart_lifted os started H enc)
end Go.Proofs.Ytnapcacgdidgdaa
