/- FnSpeed: for every code, the shortest row is a bit. No condition. -/
import Derived.Test.YthkeodpejhmkbaaRunsLaw
import Derived.Test.YthkeodpejhmkbaaLine5
import Derived.Test.YthkeodpejhmkbaaSaidB
namespace Go.Proofs.Ythkeodpejhmkbaa
open Go.ChangeShapes Go.WideShapes Go.ChangeAt Go.RowKit

set_option maxHeartbeats 1000000 in
set_option maxRecDepth 100000 in
theorem FnSpeed_walk (ao : Option Addr) (bs : List Int) (c : Nat) (w : World) (h : Bytes w ao bs) (hc : bs.length ≤ c) (_hm : c ≤ maxLen) :
    Calls Try.prog 9 #[.slice ao bs.length c] w fun e w' => e = .returned (.bool true) ∧ Below w.heap.size w w' := by
  unfold maxLen at _hm
  by_cases hn : (bs.length : Int) ≤ 1048576
  case neg =>
    have hn' : (1048576 : Int) < (bs.length : Int) := by omega
    go_enter Try.func9, Try.ntmps9
    go_wp2
    go_ret
    exact ⟨rfl, Below.refl _ _⟩
  go_enter Try.func9, Try.ntmps9
  go_wp2_with fail
  refine (drawSpeedOf_any ao bs c w h hc (by omega)).mono ?_
  rintro e w1 ⟨a1, xs, c1, rfl, lx5, o1, b1⟩
  have i1 := o1.ints
  clear o1
  go_wp2_with fail
  refine (implSpeedOf_any a1 xs c1 w1 i1 (by omega)).mono ?_
  rintro e w2 ⟨rfl, b2⟩
  have B2 := below_join b1 b2
  have i1 := i1.below b2
  go_wp2_with fail
  refine (specSpeedOf_any a1 xs c1 w2 i1 (by omega)).mono ?_
  rintro e w3 ⟨rfl, b3⟩
  have B3 := below_join B2 b3
  have i1 := i1.below b3
  clear b1 b2 b3 B2
  have hbd := runsL_bd xs
  have hsb := least_bd (inner (runsL xs)) (-1) (by omega) (by omega) (fun d hd => (runsL_bd xs).2 d (inner_mem hd))
  have hsb2 : speedL xs ≤ 500 := hsb.2
  have hsb1 : -1 ≤ speedL xs := hsb.1
  have HMN := Lib.hid (fun h : 0 ≤ speedL xs => speedL_min h)
  have HI := Lib.hid (fun v h => implRunsOf_any a1 xs c1 v h (by omega))
  obtain ⟨L, hL⟩ : ∃ L, L = runsL xs := ⟨_, rfl⟩
  obtain ⟨m, hm⟩ : ∃ m, m = speedL xs := ⟨_, rfl⟩
  rw [← hL] at hbd HMN HI
  rw [← hm] at HMN hsb1 hsb2
  rw [← hm]
  have hbl := hbd.1
  have HBD := Lib.hid hbd.2
  have hil := inner_len L
  clear hL hm hbd hsb
  by_cases h0 : m < 0
  · go_wp2
    go_ret
    exact ⟨by simp, B3⟩
  have h0' : 0 ≤ m := by omega
  have hmn := HMN.out h0'
  have HMI := Lib.hid hmn.1
  have HME := Lib.hid hmn.2
  clear h0 hmn HMN
  go_wp2_with fail
  refine (HI.out w3 i1).mono ?_
  rintro e w5 ⟨a2, c2, rfl, o2, b5⟩
  have B5 := below_join B3 b5
  have i2 := o2.ints
  clear o2 b5 B3
  go_wp2_with fail
  go_loopw [7, 8] (fun v i wr => ∃ (j : Nat) (A : Bool), j ≤ (inner L).length ∧ i = .int .i64 ((j : Int) + 1) ∧ v = .bool A ∧ A = someP m ((inner L).take j) ∧ Below w5.heap.size w5 wr) (fun _ i _ => L.length - (intOf i).toNat)
  case atStart => exact ⟨0, false, Nat.zero_le _, by go_num, rfl, by simp [someP], Below.refl _ _⟩
  case round =>
    obtain ⟨j, A, hk, rfl, rfl, hA, hb⟩ := hrel
    have HA := Lib.hid hA
    clear hA
    by_cases hlt : j < (inner L).length
    · have hj2 : (j : Int) + 1 + 1 < (L.length : Int) := by omega
      have hj1 : (j : Int) + 1 < (L.length : Int) := by omega
      have hj0 : (0 : Int) ≤ (j : Int) + 1 := by omega
      have hjn : ((j : Int) + 1).toNat = j + 1 := by omega
      obtain ⟨b, off, x, rfl, ex, x0⟩ := (i2.below hb).at_ (show j + 1 < L.length by omega)
      have ei : (inner L)[j]? = some x := by rw [inner_get hlt]; exact ex
      have hxm := HMI.out x (List.mem_of_getElem? ei)
      have ST := Lib.hid (some_step (m := m) ei)
      clear ex ei
      cases A
      · go_wp2
        go_roundw
        case rel => exact ⟨j + 1, x == m, by omega, by go_num, rfl, by rw [ST.out, ← HA.out]; rfl, hb⟩
        case measure => simp [intOf]; omega
      · go_wp2
        go_roundw
        case rel => exact ⟨j + 1, true, by omega, by go_num, rfl, by rw [ST.out, ← HA.out]; rfl, hb⟩
        case measure => simp [intOf]; omega
    · have he : j = (inner L).length := by omega
      have heI : (L.length : Int) ≤ (j : Int) + 1 + 1 := by omega
      have hAt : A = true := by
        rw [HA.out, he, List.take_length]
        exact List.any_eq_true.2 ⟨m, HME.out, by simp⟩
      subst hAt
      clear he
      go_wp2
      go_ret
      exact ⟨rfl, B5.trans (hb.mono B5.size)⟩

set_option linter.unusedVariables false in
set_option maxRecDepth 100000 in
theorem FnSpeed_lifted (os : Os) (started : os.Started) (H : Type) (enc : TypeId × Value → H) :
    ReturnsInHanded {} Try.checked os 9 .any (Rows.fnSpeedSpec.pre6 enc Try.prog Try.f9 Rows.fnSpeedRow.domain false) (Rows.fnSpeedSpec.post enc Try.prog Try.f9 false true false false) := by
  refine returnsInHanded_of_change (C := Try.checked) own_knob started (by kernel_rfl) Try.func9
    (ChangeSpec.witness6 (enc := enc) (C := Try.checked) false ⟨#[], #[.slice none 0 0], []⟩ 8 (by kernel_rfl) (by kernel_rfl) (by kernel_rfl) (by kernel_rfl)) ?_
  intro W base args ds gs before hval0 hW hcnd _
  have hval : ∀ (j : Nat) t v, Try.f9.params[j]? = some t → args[j]? = some v → Value.okWide Try.prog W .any base t v := hval0
  have hW' := hW
  obtain ⟨p, q, hA0, hV, rfl, hfz, hnd⟩ := hW
  have hA : DataW.TrodAll enc Try.prog W 0 (fun _ => true) true Try.f9.params.toList args.toList ds p := hA0
  rw [Try.params9] at hA hval
  obtain ⟨v0, vs0, d0, ds0, p0, q0, hargs, rfl, rfl, h0, r0⟩ := trodAll_cons hA
  obtain ⟨rfl, rfl, rfl⟩ := trodAll_nil r0
  obtain rfl : args = #[v0] := by cases args; simp_all
  obtain ⟨rfl, rfl⟩ := trodVars_none hV
  have k0 := h0
  have lt0 : ∀ x ∈ p0, x.block < W.heap.size := by obtain ⟨m, hm⟩ := k0; exact DataW.trod_lt m _ _ _ hm
  obtain ⟨a0, len0, cap0, rfl⟩ := okWide_slice Try.underlying29 (hval 0 29 v0 rfl rfl)
  obtain ⟨z0, rfl, lc0, lm0, rz0⟩ : ∃ z : List Int, len0 = z.length ∧ z.length ≤ cap0 ∧ cap0 ≤ maxLen ∧ Bytes W a0 z := by
    obtain ⟨fuel, hf⟩ := h0
    obtain ⟨ao, cap, z, e, h1, h2, h3⟩ := rd_bytes hf
    simp [Value.cells] at e
    obtain ⟨rfl, rfl, rfl⟩ := e
    exact ⟨z, rfl, h1, h2, h3⟩
  have lb0 : z0.length ≤ cap0 := lc0
  clear hA0 hval0
  refine (FnSpeed_walk a0 z0 cap0 W rz0 lc0 lm0).mono fun e W' ⟨he, bel⟩ => ?_
  subst he
  exact ⟨_, rfl, _, _, _, [], _, [], hW', trodAll_mk1 (shut_bool Try.underlying4 _), (trodAll_cons_mk (Below.trod laid_out (by kernel_rfl) (of_decide_eq_true (by kernel_rfl)) k0 bel lt0) trodAll_mk0), rfl, bel.frame _, fun h => by cases h⟩

theorem FnSpeed_holds : Rows.FnSpeedSaid :=
  OpenClaim.holds_of_wide 9 Try.f9 rfl rfl rfl rfl rfl rfl rfl ⟨rfl, rfl, rfl, rfl, rfl⟩ rfl rfl rfl rfl rfl (by kernel_rfl) Try.func9 (by kernel_rfl)
    (of_decide_eq_true (by kernel_rfl)) (by unfold Func.isWrapper; first | (rw [if_pos (by decide +kernel)]; kernel_rfl) | (rw [if_neg (by decide +kernel)]; exact ⟨rfl, rfl⟩))
    (fun os started H enc _ => FnSpeed_lifted os started H enc)
end Go.Proofs.Ythkeodpejhmkbaa
