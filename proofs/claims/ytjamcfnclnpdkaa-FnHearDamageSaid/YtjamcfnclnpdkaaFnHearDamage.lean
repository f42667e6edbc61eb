/- FnHearDamage: for every code, what the statement says of one who hears. No condition. -/
import Derived.Test.YtjamcfnclnpdkaaTalkLaw
import Derived.Test.YtjamcfnclnpdkaaSaidB
namespace Go.Proofs.Ytjamcfnclnpdkaa
open Go.ChangeShapes Go.WideShapes Go.ChangeAt Go.RowKit

set_option maxHeartbeats 4000000 in
set_option maxRecDepth 100000 in
theorem FnHearDamage_walk (a0 : Option Addr) (z0 : List Int) (cap0 : Nat) (a1 : Option Addr) (z1 : List Int) (cap1 : Nat) (w : World) (rz0 : Bytes w a0 z0) (lc0 : z0.length ≤ cap0) (_lm0 : cap0 ≤ maxLen) (_rz1 : Bytes w a1 z1) (_lc1 : z1.length ≤ cap1) (_lm1 : cap1 ≤ maxLen) :
    Calls Try.prog 11 #[.slice a0 z0.length cap0, .slice a1 z1.length cap1] w fun e w' => e = .returned (.bool true) ∧ Below w.heap.size w w' := by
  unfold maxLen at _lm0
  unfold maxLen at _lm1
  by_cases hn0 : (z0.length : Int) ≤ 1048576
  case neg =>
    have hn0' : (1048576 : Int) < (z0.length : Int) := by omega
    go_enter Try.func11, Try.ntmps11
    go_wp2
    go_ret
    exact ⟨rfl, Below.refl _ _⟩
  by_cases hn1 : (z1.length : Int) ≤ 1048576
  case neg =>
    have hn1' : (1048576 : Int) < (z1.length : Int) := by omega
    go_enter Try.func11, Try.ntmps11
    go_wp2
    go_ret
    exact ⟨rfl, Below.refl _ _⟩
  go_enter Try.func11, Try.ntmps11
  have B1 : Below w.heap.size w w := Below.refl _ _
  go_wp2_with fail
  refine (drawTalkHear_any a0 z0 cap0 w rz0 lc0 (by omega)).mono ?_
  rintro e w2 ⟨x, a, xs, c, rfl, lx, hcx, ix, b3⟩
  have zw2 := b3.size
  have B4 := B1.trans (b3.mono B1.size)
  clear B1
  have HI := Lib.hid (fun v h => implTalkHear_any x a xs c v h hcx (by omega))
  have HJ := Lib.hid (fun v h => specTalkHear_any x a xs c v h hcx (by omega))
  rcases hear_cases x xs with hR | ⟨T, x0, x1, lT, lT2, hs, hL, hR⟩ | ⟨u, T, hux, x0, x1, u0, u1, lT, lT2, hs, hL, hR⟩
  · rw [hR] at HI HJ
    clear hR
    go_wp2_with fail
    refine (HI.out w2 ix).mono ?_
    rintro e w5 ⟨⟨a1, c1, rfl, o1⟩, b6⟩
    have zw5 := b6.size
    have B7 := B4.trans (b6.mono B4.size)
    clear B4
    replace ix := Ints.below ix b6
    have i1 : Ints w5 a1 [] := own_cells o1
    clear o1
    go_wp2_with fail
    refine (HJ.out w5 ix).mono ?_
    rintro e w8 ⟨⟨a2, c2, rfl, o2⟩, b9⟩
    have zw8 := b9.size
    have B10 := B7.trans (b9.mono B7.size)
    clear B7
    replace ix := Ints.below ix b9
    replace i1 := Ints.below i1 b9
    have i2 : Ints w8 a2 [] := own_cells o2
    clear o2
    go_wp2_with fail
    refine (sameInts_below a1 a2 [] [] c1 c2 w8 i1 i2 (by first | omega | simp) (by first | omega | simp)).mono ?_
    rintro e w11 ⟨rfl, b12⟩
    have zw11 := b12.size
    have B13 := B10.trans (b12.mono B10.size)
    clear B10
    replace ix := Ints.below ix b12
    replace i1 := Ints.below i1 b12
    replace i2 := Ints.below i2 b12
    go_wp2_with fail
    refine (sameInts_below a1 a2 [] [] c1 c2 w11 i1 i2 (by first | omega | simp) (by first | omega | simp)).mono ?_
    rintro e w14 ⟨rfl, b15⟩
    have zw14 := b15.size
    have B16 := B13.trans (b15.mono B13.size)
    clear B13
    replace ix := Ints.below ix b15
    replace i1 := Ints.below i1 b15
    replace i2 := Ints.below i2 b15
    go_wp2
    go_ret
    exact ⟨rfl, B16⟩
  · have hb := hs
    simp only [sumTakeB, Bool.and_eq_true, decide_eq_true_eq] at hb
    have lx2 := hb.2.1.1
    have hby := hb.1
    clear hb
    rw [hR] at HI HJ
    clear hR
    go_wp2_with fail
    refine (HI.out w2 ix).mono ?_
    rintro e w17 ⟨⟨a1, c1, rfl, o1⟩, b18⟩
    have zw17 := b18.size
    have B19 := B4.trans (b18.mono B4.size)
    clear B4
    replace ix := Ints.below ix b18
    have i1 : Ints w17 a1 T := own_cells o1
    clear o1
    go_wp2_with fail
    refine (HJ.out w17 ix).mono ?_
    rintro e w20 ⟨⟨a2, c2, rfl, o2⟩, b21⟩
    have zw20 := b21.size
    have B22 := B19.trans (b21.mono B19.size)
    clear B19
    replace ix := Ints.below ix b21
    replace i1 := Ints.below i1 b21
    have i2 : Ints w20 a2 T := own_cells o2
    clear o2
    go_wp2_with fail
    refine (sameInts_below a1 a2 T T c1 c2 w20 i1 i2 (by first | omega | simp) (by first | omega | simp)).mono ?_
    rintro e w23 ⟨rfl, b24⟩
    have zw23 := b24.size
    have B25 := B22.trans (b24.mono B22.size)
    clear B22
    replace ix := Ints.below ix b24
    replace i1 := Ints.below i1 b24
    replace i2 := Ints.below i2 b24
    have lx3 : (0 : Int) < (xs.length : Int) := by omega
    have hm0 : 0 ≤ (z1.length : Int) % (xs.length : Int) := Int.emod_nonneg _ (by omega)
    have hm1 : (z1.length : Int) % (xs.length : Int) < (xs.length : Int) := Int.emod_lt_of_pos _ lx3
    obtain ⟨kk, hkk⟩ : ∃ kk : Nat, (z1.length : Int) % (xs.length : Int) = (kk : Int) := Int.eq_ofNat_of_zero_le hm0
    rw [hkk] at hm1
    have hkk2 : kk < xs.length := by omega
    clear hm0
    have hv : xs[kk]? = some xs[kk] := List.getElem?_eq_getElem hkk2
    generalize xs[kk] = v at hv
    have hvb := byte_at hby hv
    have HA := Lib.hid (ints_nil_cap (c := c) ix (by omega))
    have v0 := hvb.1
    have v1 := hvb.2
    have hxz : ((xs.length : Int) == 0) = false := beq_eq_false_iff_ne.2 (by omega)
    clear hby hvb
    by_cases h254 : 254 ≤ v
    · have HR := Lib.hid (hear_damage (x := x) hs hv (.inl rfl))
      have HT := Lib.hid (fun w ay cy h hc => implTalkHear_any x ay (xs.set kk (v - 1)) cy w h hc (by rw [List.length_set]; omega))
      have HV := Lib.hid hv
      clear hv hs hL
      go_wp2_with (
        at_builtin
        refine name_list fun W hW => ?_
        have hoW : W.ownsRow w.heap.size 3 1 (.slice (some ⟨w23.heap.size, 0, none⟩) 0 0) 0 [] := (by rw [hW]; exact own_made_at w23 #[] _ _ 0 _ _ rfl B25.size (by simp) rfl)
        have hxW : Ints W a xs := (by rw [hW]; exact ix.keep (Keeps.alloc _ _))
        have bW : Below w.heap.size w W := (by rw [hW]; exact B25.alloc B25.size _)
        refine wpList_append_row W rfl _ _ _ rfl w.heap.size 3 _ 1 8 Try.underlying23 int_info rfl (by decide) (some ⟨w23.heap.size, 0, none⟩) 0 0 [] (by rfl) hoW a xs.length c (xs.map (Value.int .i64)) (by rfl) hxW (by simp) (ints_one _) HA.out (by simp only [maxLen]; omega) (by omega) bW.size ?_
        intro ay cy wy hoy hgy
        rw [Nat.zero_add, List.nil_append] at hoy
        have bY := below_append bW hoW hgy bW.size
        rw [Nat.zero_add]
        have hoy2 : OwnI wy w.heap.size ay cy xs := hoy
        obtain ⟨gy, uy, rfl, hgb, hgs, hcu, hfu, oP⟩ := OwnI.put hoy2 hkk2 (v - 1)
        have hcy : wy.cell? ⟨gy, kk, none⟩ = some (.int .i64 v) := own_cell_at hoy2 (by rw [List.getElem?_map, HV.out]; rfl)
        have OP := Lib.hid oP
        have hcap := own_cap hoy2
        clear hW hoW hxW hoy hoy2 hgy oP hcu)
      have hT := HT.out _ _ cy OP.out.ints (by rw [List.length_set]; exact hcap)
      rw [List.length_set, HR.out] at hT
      refine hT.mono ?_
      rintro e wz ⟨⟨az, cz, rfl, oz⟩, bz⟩
      go_wp2
      go_ret
      have bS := bY.setCell (p := ⟨gy, kk, none⟩) hgb (.int .i64 (v - 1))
      exact ⟨rfl, bS.trans (bz.mono bS.size)⟩
    · have h254b : v < 254 := by omega
      clear h254
      have HR := Lib.hid (hear_damage (x := x) hs hv (.inr rfl))
      have HT := Lib.hid (fun w ay cy h hc => implTalkHear_any x ay (xs.set kk (v + 1)) cy w h hc (by rw [List.length_set]; omega))
      have HV := Lib.hid hv
      clear hv hs hL
      go_wp2_with (
        at_builtin
        refine name_list fun W hW => ?_
        have hoW : W.ownsRow w.heap.size 3 1 (.slice (some ⟨w23.heap.size, 0, none⟩) 0 0) 0 [] := (by rw [hW]; exact own_made_at w23 #[] _ _ 0 _ _ rfl B25.size (by simp) rfl)
        have hxW : Ints W a xs := (by rw [hW]; exact ix.keep (Keeps.alloc _ _))
        have bW : Below w.heap.size w W := (by rw [hW]; exact B25.alloc B25.size _)
        refine wpList_append_row W rfl _ _ _ rfl w.heap.size 3 _ 1 8 Try.underlying23 int_info rfl (by decide) (some ⟨w23.heap.size, 0, none⟩) 0 0 [] (by rfl) hoW a xs.length c (xs.map (Value.int .i64)) (by rfl) hxW (by simp) (ints_one _) HA.out (by simp only [maxLen]; omega) (by omega) bW.size ?_
        intro ay cy wy hoy hgy
        rw [Nat.zero_add, List.nil_append] at hoy
        have bY := below_append bW hoW hgy bW.size
        rw [Nat.zero_add]
        have hoy2 : OwnI wy w.heap.size ay cy xs := hoy
        obtain ⟨gy, uy, rfl, hgb, hgs, hcu, hfu, oP⟩ := OwnI.put hoy2 hkk2 (v + 1)
        have hcy : wy.cell? ⟨gy, kk, none⟩ = some (.int .i64 v) := own_cell_at hoy2 (by rw [List.getElem?_map, HV.out]; rfl)
        have OP := Lib.hid oP
        have hcap := own_cap hoy2
        clear hW hoW hxW hoy hoy2 hgy oP hcu)
      have hT := HT.out _ _ cy OP.out.ints (by rw [List.length_set]; exact hcap)
      rw [List.length_set, HR.out] at hT
      refine hT.mono ?_
      rintro e wz ⟨⟨az, cz, rfl, oz⟩, bz⟩
      go_wp2
      go_ret
      have bS := bY.setCell (p := ⟨gy, kk, none⟩) hgb (.int .i64 (v + 1))
      exact ⟨rfl, bS.trans (bz.mono bS.size)⟩
  · clear hux
    have hb := hs
    simp only [sumTakeB, Bool.and_eq_true, decide_eq_true_eq] at hb
    have lx2 := hb.2.1.1
    have hby := hb.1
    clear hb
    rw [hR] at HI HJ
    clear hR
    go_wp2_with fail
    refine (HI.out w2 ix).mono ?_
    rintro e w26 ⟨⟨a1, c1, rfl, o1⟩, b27⟩
    have zw26 := b27.size
    have B28 := B4.trans (b27.mono B4.size)
    clear B4
    replace ix := Ints.below ix b27
    have i1 : Ints w26 a1 [] := own_cells o1
    clear o1
    go_wp2_with fail
    refine (HJ.out w26 ix).mono ?_
    rintro e w29 ⟨⟨a2, c2, rfl, o2⟩, b30⟩
    have zw29 := b30.size
    have B31 := B28.trans (b30.mono B28.size)
    clear B28
    replace ix := Ints.below ix b30
    replace i1 := Ints.below i1 b30
    have i2 : Ints w29 a2 [] := own_cells o2
    clear o2
    go_wp2_with fail
    refine (sameInts_below a1 a2 [] [] c1 c2 w29 i1 i2 (by first | omega | simp) (by first | omega | simp)).mono ?_
    rintro e w32 ⟨rfl, b33⟩
    have zw32 := b33.size
    have B34 := B31.trans (b33.mono B31.size)
    clear B31
    replace ix := Ints.below ix b33
    replace i1 := Ints.below i1 b33
    replace i2 := Ints.below i2 b33
    have lx3 : (0 : Int) < (xs.length : Int) := by omega
    have hm0 : 0 ≤ (z1.length : Int) % (xs.length : Int) := Int.emod_nonneg _ (by omega)
    have hm1 : (z1.length : Int) % (xs.length : Int) < (xs.length : Int) := Int.emod_lt_of_pos _ lx3
    obtain ⟨kk, hkk⟩ : ∃ kk : Nat, (z1.length : Int) % (xs.length : Int) = (kk : Int) := Int.eq_ofNat_of_zero_le hm0
    rw [hkk] at hm1
    have hkk2 : kk < xs.length := by omega
    clear hm0
    have hv : xs[kk]? = some xs[kk] := List.getElem?_eq_getElem hkk2
    generalize xs[kk] = v at hv
    have hvb := byte_at hby hv
    have HA := Lib.hid (ints_nil_cap (c := c) ix (by omega))
    have v0 := hvb.1
    have v1 := hvb.2
    have hxz : ((xs.length : Int) == 0) = false := beq_eq_false_iff_ne.2 (by omega)
    clear hby hvb
    by_cases h254 : 254 ≤ v
    · have HR := Lib.hid (hear_damage (x := x) hs hv (.inl rfl))
      have HT := Lib.hid (fun w ay cy h hc => implTalkHear_any x ay (xs.set kk (v - 1)) cy w h hc (by rw [List.length_set]; omega))
      have HV := Lib.hid hv
      clear hv hs hL
      go_wp2_with (
        at_builtin
        refine name_list fun W hW => ?_
        have hoW : W.ownsRow w.heap.size 3 1 (.slice (some ⟨w32.heap.size, 0, none⟩) 0 0) 0 [] := (by rw [hW]; exact own_made_at w32 #[] _ _ 0 _ _ rfl B34.size (by simp) rfl)
        have hxW : Ints W a xs := (by rw [hW]; exact ix.keep (Keeps.alloc _ _))
        have bW : Below w.heap.size w W := (by rw [hW]; exact B34.alloc B34.size _)
        refine wpList_append_row W rfl _ _ _ rfl w.heap.size 3 _ 1 8 Try.underlying23 int_info rfl (by decide) (some ⟨w32.heap.size, 0, none⟩) 0 0 [] (by rfl) hoW a xs.length c (xs.map (Value.int .i64)) (by rfl) hxW (by simp) (ints_one _) HA.out (by simp only [maxLen]; omega) (by omega) bW.size ?_
        intro ay cy wy hoy hgy
        rw [Nat.zero_add, List.nil_append] at hoy
        have bY := below_append bW hoW hgy bW.size
        rw [Nat.zero_add]
        have hoy2 : OwnI wy w.heap.size ay cy xs := hoy
        obtain ⟨gy, uy, rfl, hgb, hgs, hcu, hfu, oP⟩ := OwnI.put hoy2 hkk2 (v - 1)
        have hcy : wy.cell? ⟨gy, kk, none⟩ = some (.int .i64 v) := own_cell_at hoy2 (by rw [List.getElem?_map, HV.out]; rfl)
        have OP := Lib.hid oP
        have hcap := own_cap hoy2
        clear hW hoW hxW hoy hoy2 hgy oP hcu)
      have hT := HT.out _ _ cy OP.out.ints (by rw [List.length_set]; exact hcap)
      rw [List.length_set, HR.out] at hT
      refine hT.mono ?_
      rintro e wz ⟨⟨az, cz, rfl, oz⟩, bz⟩
      go_wp2
      go_ret
      have bS := bY.setCell (p := ⟨gy, kk, none⟩) hgb (.int .i64 (v - 1))
      exact ⟨rfl, bS.trans (bz.mono bS.size)⟩
    · have h254b : v < 254 := by omega
      clear h254
      have HR := Lib.hid (hear_damage (x := x) hs hv (.inr rfl))
      have HT := Lib.hid (fun w ay cy h hc => implTalkHear_any x ay (xs.set kk (v + 1)) cy w h hc (by rw [List.length_set]; omega))
      have HV := Lib.hid hv
      clear hv hs hL
      go_wp2_with (
        at_builtin
        refine name_list fun W hW => ?_
        have hoW : W.ownsRow w.heap.size 3 1 (.slice (some ⟨w32.heap.size, 0, none⟩) 0 0) 0 [] := (by rw [hW]; exact own_made_at w32 #[] _ _ 0 _ _ rfl B34.size (by simp) rfl)
        have hxW : Ints W a xs := (by rw [hW]; exact ix.keep (Keeps.alloc _ _))
        have bW : Below w.heap.size w W := (by rw [hW]; exact B34.alloc B34.size _)
        refine wpList_append_row W rfl _ _ _ rfl w.heap.size 3 _ 1 8 Try.underlying23 int_info rfl (by decide) (some ⟨w32.heap.size, 0, none⟩) 0 0 [] (by rfl) hoW a xs.length c (xs.map (Value.int .i64)) (by rfl) hxW (by simp) (ints_one _) HA.out (by simp only [maxLen]; omega) (by omega) bW.size ?_
        intro ay cy wy hoy hgy
        rw [Nat.zero_add, List.nil_append] at hoy
        have bY := below_append bW hoW hgy bW.size
        rw [Nat.zero_add]
        have hoy2 : OwnI wy w.heap.size ay cy xs := hoy
        obtain ⟨gy, uy, rfl, hgb, hgs, hcu, hfu, oP⟩ := OwnI.put hoy2 hkk2 (v + 1)
        have hcy : wy.cell? ⟨gy, kk, none⟩ = some (.int .i64 v) := own_cell_at hoy2 (by rw [List.getElem?_map, HV.out]; rfl)
        have OP := Lib.hid oP
        have hcap := own_cap hoy2
        clear hW hoW hxW hoy hoy2 hgy oP hcu)
      have hT := HT.out _ _ cy OP.out.ints (by rw [List.length_set]; exact hcap)
      rw [List.length_set, HR.out] at hT
      refine hT.mono ?_
      rintro e wz ⟨⟨az, cz, rfl, oz⟩, bz⟩
      go_wp2
      go_ret
      have bS := bY.setCell (p := ⟨gy, kk, none⟩) hgb (.int .i64 (v + 1))
      exact ⟨rfl, bS.trans (bz.mono bS.size)⟩

set_option linter.unusedVariables false in
set_option maxRecDepth 100000 in
theorem FnHearDamage_lifted (os : Os) (started : os.Started) (H : Type) (enc : TypeId × Value → H) :
    ReturnsInHanded {} Try.checked os 11 .any (Rows.fnHearDamageSpec.pre6 enc Try.prog Try.f11 Rows.fnHearDamageRow.domain false) (Rows.fnHearDamageSpec.post enc Try.prog Try.f11 false true false false) := by
  refine returnsInHanded_of_change (C := Try.checked) own_knob started (by kernel_rfl) Try.func11
    (ChangeSpec.witness6 (enc := enc) (C := Try.checked) false ⟨#[], #[.slice none 0 0, .slice none 0 0], []⟩ 8 (by kernel_rfl) (by kernel_rfl) (by kernel_rfl) (by kernel_rfl)) ?_
  intro W base args ds gs before hval0 hW hcnd _
  have hval : ∀ (j : Nat) t v, Try.f11.params[j]? = some t → args[j]? = some v → Value.okWide Try.prog W .any base t v := hval0
  have hW' := hW
  obtain ⟨p, q, hA0, hV, rfl, hfz, hnd⟩ := hW
  have hA : DataW.TrodAll enc Try.prog W 0 (fun _ => true) true Try.f11.params.toList args.toList ds p := hA0
  rw [Try.params11] at hA hval
  obtain ⟨v0, vs0, d0, ds0, p0, q0, hargs, rfl, rfl, h0, r0⟩ := trodAll_cons hA
  obtain ⟨v1, vs1, d1, ds1, p1, q1, rfl, rfl, rfl, h1, r1⟩ := trodAll_cons r0
  obtain ⟨rfl, rfl, rfl⟩ := trodAll_nil r1
  obtain rfl : args = #[v0, v1] := by cases args; simp_all
  obtain ⟨rfl, rfl⟩ := trodVars_none hV
  have k0 := h0
  have lt0 : ∀ x ∈ p0, x.block < W.heap.size := by obtain ⟨m, hm⟩ := k0; exact DataW.trod_lt m _ _ _ hm
  obtain ⟨a0, len0, cap0, rfl⟩ := okWide_slice Try.underlying22 (hval 0 22 v0 rfl rfl)
  obtain ⟨z0, rfl, lc0, lm0, rz0⟩ : ∃ z : List Int, len0 = z.length ∧ z.length ≤ cap0 ∧ cap0 ≤ maxLen ∧ Bytes W a0 z := by
    obtain ⟨fuel, hf⟩ := h0
    obtain ⟨ao, cap, z, e, h1, h2, h3⟩ := rd_bytes hf
    simp [Value.cells] at e
    obtain ⟨rfl, rfl, rfl⟩ := e
    exact ⟨z, rfl, h1, h2, h3⟩
  have lb0 : z0.length ≤ cap0 := lc0
  have k1 := h1
  have lt1 : ∀ x ∈ p1, x.block < W.heap.size := by obtain ⟨m, hm⟩ := k1; exact DataW.trod_lt m _ _ _ hm
  obtain ⟨a1, len1, cap1, rfl⟩ := okWide_slice Try.underlying22 (hval 1 22 v1 rfl rfl)
  obtain ⟨z1, rfl, lc1, lm1, rz1⟩ : ∃ z : List Int, len1 = z.length ∧ z.length ≤ cap1 ∧ cap1 ≤ maxLen ∧ Bytes W a1 z := by
    obtain ⟨fuel, hf⟩ := h1
    obtain ⟨ao, cap, z, e, h1, h2, h3⟩ := rd_bytes hf
    simp [Value.cells] at e
    obtain ⟨rfl, rfl, rfl⟩ := e
    exact ⟨z, rfl, h1, h2, h3⟩
  have lb1 : z1.length ≤ cap1 := lc1
  clear hA0 hval0
  refine (FnHearDamage_walk a0 z0 cap0 a1 z1 cap1 W rz0 lc0 lm0 rz1 lc1 lm1).mono fun e W' ⟨he, bel⟩ => ?_
  subst he
  exact ⟨_, rfl, _, _, _, [], _, [], hW', trodAll_mk1 (shut_bool Try.underlying4 _), (trodAll_cons_mk (Below.trod laid_out (by kernel_rfl) (of_decide_eq_true (by kernel_rfl)) k0 bel lt0) (trodAll_cons_mk (Below.trod laid_out (by kernel_rfl) (of_decide_eq_true (by kernel_rfl)) k1 bel lt1) trodAll_mk0)), rfl, bel.frame _, fun h => by cases h⟩

theorem FnHearDamage_holds : Rows.FnHearDamageSaid :=
  OpenClaim.holds_of_wide 11 Try.f11 rfl rfl rfl rfl rfl rfl rfl ⟨rfl, rfl, rfl, rfl, rfl⟩ rfl rfl rfl rfl rfl (by kernel_rfl) Try.func11 (by kernel_rfl)
    (of_decide_eq_true (by kernel_rfl)) (by unfold Func.isWrapper; first | (rw [if_pos (by decide +kernel)]; kernel_rfl) | (rw [if_neg (by decide +kernel)]; exact ⟨rfl, rfl⟩))
    (fun os started H enc _ => FnHearDamage_lifted os started H enc)
end Go.Proofs.Ytjamcfnclnpdkaa
