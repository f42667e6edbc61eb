/- FnReadyLate: A byte that waits becomes late. No conditions beyond the statement's own. -/
import Derived.Test.YtmmdbbnmifpciaaRecvLaw
namespace Go.Proofs.Ytmmdbbnmifpciaa
open Go.ChangeShapes Go.WideShapes Go.ChangeAt Go.RowKit

set_option maxHeartbeats 4000000 in
set_option maxRecDepth 100000 in
theorem FnReadyLate_walk (a0 : Option Addr) (z0 : List Int) (cap0 : Nat) (w : World) (rz0 : Bytes w a0 z0) (lc0 : z0.length ≤ cap0) (_lm0 : cap0 ≤ maxLen) :
    Calls Try.prog 3 #[.slice a0 z0.length cap0] w fun e w' => e = .returned (.bool true) ∧ Below w.heap.size w w' := by
  unfold maxLen at _lm0
  by_cases hn0 : (z0.length : Int) ≤ 1048576
  case neg =>
    have hn0' : (1048576 : Int) < (z0.length : Int) := by omega
    go_enter Try.func3, Try.ntmps3
    go_wp2
    go_ret
    exact ⟨rfl, Below.refl _ _⟩
  go_enter Try.func3, Try.ntmps3
  have B1 : Below w.heap.size w w := Below.refl _ _
  go_wp2_with fail
  refine (drawRecvReady_any a0 z0 cap0 w rz0 lc0 (by omega)).mono ?_
  rintro e w2 ⟨r, t, a, xs, c, l, ag, rfl, lx, ox, b3⟩
  have zw2 := b3.size
  have B4 := B1.trans (b3.mono B1.size)
  clear B1
  have ix : Gts w2 a xs := own_cells ox
  have HC := Lib.hid (own_nilcap ox)
  clear ox
  have HI := Lib.hid (fun v h => implRecvReady_any r t a xs c l ag v h (by omega))
  have HJ := Lib.hid (fun v h => specRecvReady_any r t a xs c l ag v h (by omega))
  have HF := Lib.hid (fun v h => specRecvValid_any r t a xs c l ag v h (by omega))
  obtain ⟨N, hN⟩ : ∃ N, N = readyN r t xs ag := ⟨_, rfl⟩
  rw [← hN] at HI HJ
  clear hN
  go_wp2_with fail
  refine name_calls fun W5 hW5 => ?_
  have zW5 : W5.heap.size = w2.heap.size + 1 := by rw [hW5]; simp
  have H60 := (heap_new_at w2 (.cells #[.int .i64 r, .int .i64 t, .slice a xs.length c, .bool l, .int .i64 ag] 25 (0, 0)) (w2.heap.size) (by simp))
  rw [← hW5] at H60
  have H6 := Lib.hid H60
  clear H60
  have B7 := (below_alloc3 B4 (.cells #[.int .i64 r, .int .i64 t, .slice a xs.length c, .bool l, .int .i64 ag] 25 (0, 0)))
  rw [← hW5] at B7
  clear B4
  replace ix := (Gts.keep ix (Keeps.alloc _ (.cells #[.int .i64 r, .int .i64 t, .slice a xs.length c, .bool l, .int .i64 ag] 25 (0, 0))))
  rw [← hW5] at ix
  clear hW5
  refine (HI.out W5 ix).mono ?_
  rintro e w8 ⟨rfl, b9⟩
  have zw8 := b9.size
  have B10 := B7.trans (b9.mono B7.size)
  clear B7
  replace H6 := Lib.hid ((b9.block _ (Array.getElem?_eq_some_iff.1 H6.out).1).trans H6.out)
  replace ix := Gts.below ix b9
  obtain ⟨cc11, cc12, cc13, cc14, cc15⟩ := cells5 H6.out
  have ll16 := (Array.getElem?_eq_some_iff.1 H6.out).1
  go_wp2_with fail
  clear cc11 cc12 cc13 cc14 cc15 ll16
  refine (HJ.out w8 ix).mono ?_
  rintro e w17 ⟨rfl, b18⟩
  have zw17 := b18.size
  have B19 := B10.trans (b18.mono B10.size)
  clear B10
  replace H6 := Lib.hid ((b18.block _ (Array.getElem?_eq_some_iff.1 H6.out).1).trans H6.out)
  replace ix := Gts.below ix b18
  cases hB : recvB r t xs ag
  · rw [hB] at HF
    obtain ⟨cc20, cc21, cc22, cc23, cc24⟩ := cells5 H6.out
    have ll25 := (Array.getElem?_eq_some_iff.1 H6.out).1
    go_wp2_with fail
    clear cc20 cc21 cc22 cc23 cc24 ll25
    refine (HF.out w17 ix).mono ?_
    rintro e w26 ⟨rfl, b27⟩
    have zw26 := b27.size
    have B28 := B19.trans (b27.mono B19.size)
    clear B19
    replace H6 := Lib.hid ((b27.block _ (Array.getElem?_eq_some_iff.1 H6.out).1).trans H6.out)
    replace ix := Gts.below ix b27
    obtain ⟨cc29, cc30, cc31, cc32, cc33⟩ := cells5 H6.out
    have ll34 := (Array.getElem?_eq_some_iff.1 H6.out).1
    go_wp2
    go_ret
    exact ⟨by simp, B28⟩
  · rw [hB] at HF
    obtain ⟨cc35, cc36, cc37, cc38, cc39⟩ := cells5 H6.out
    have ll40 := (Array.getElem?_eq_some_iff.1 H6.out).1
    go_wp2_with fail
    clear cc35 cc36 cc37 cc38 cc39 ll40
    refine (HF.out w17 ix).mono ?_
    rintro e w41 ⟨rfl, b42⟩
    have zw41 := b42.size
    have B43 := B19.trans (b42.mono B19.size)
    clear B19
    replace H6 := Lib.hid ((b42.block _ (Array.getElem?_eq_some_iff.1 H6.out).1).trans H6.out)
    replace ix := Gts.below ix b42
    by_cases h0 : xs.length = 0
    · have hzb : ((xs.length : Int) == 0) = true := beq_iff_eq.2 (by omega)
      clear h0
      obtain ⟨cc44, cc45, cc46, cc47, cc48⟩ := cells5 H6.out
      have ll49 := (Array.getElem?_eq_some_iff.1 H6.out).1
      go_wp2
      go_ret
      exact ⟨by simp, B43⟩
    · have hzb : ((xs.length : Int) == 0) = false := beq_eq_false_iff_ne.2 (by omega)
      have hff := recvB_facts hB
      have ha0 := hff.2.2.2.1.1
      clear hff
      obtain ⟨cc50, cc51, cc52, cc53, cc54⟩ := cells5 H6.out
      have ll55 := (Array.getElem?_eq_some_iff.1 H6.out).1
      go_wp2_with fail
      clear cc50 cc51 cc52 cc53 cc54 ll55
      refine name_wp fun WX hWX => ?_
      have bX : Below w41.heap.size w41 WX := by rw [hWX]; exact (Below.refl _ _).alloc (Nat.le_refl _) _
      have hX0 : WX.heap[w41.heap.size]? = some (.cells #[.int .i64 r, .int .i64 t, .slice a xs.length c, .bool l, .int .i64 ag] 25 (0, 0)) := by rw [hWX]; exact heap_new_at w41 _ _ rfl
      clear hWX
      go_loopw [7] (fun i wr => ∃ (k : Nat) (ax : Option Addr) (cx : Nat) (g : Int), k ≤ 4 ∧ i = .int .i64 k ∧ recvB r t xs g = true ∧ (k : Int) ≤ g ∧ Below w41.heap.size w41 wr ∧ Gts wr ax xs ∧ wr.heap[w41.heap.size]? = some (.cells #[.int .i64 r, .int .i64 t, .slice ax xs.length cx, .bool l, .int .i64 g] 25 (0, 0))) (fun i _ => 4 - (intOf i).toNat)
      case atStart => exact ⟨0, a, c, ag, by omega, rfl, hB, ha0, bX, Gts.below ix bX, hX0⟩
      case round =>
        clear bX hX0
        obtain ⟨k, ax, cx, g, hk, rfl, hg, hkg, hb, jx, gx⟩ := hrel
        have hlx := box_lt gx
        obtain ⟨q0, q1, q2, q3, q4⟩ := cells5 gx
        by_cases hlt : k < 4
        · have hltI : (k : Int) < 4 := by omega
          have HG := Lib.hid (rtickR_yes (l := l) hg)
          have HV := Lib.hid (recvB_tick hg)
          have HA := Lib.hid (age_up hg h0 hkg hlt)
          have GX := Lib.hid gx
          clear gx hg hkg
          go_wp2_with fail
          have hRT := implRecvTick_any r t ax xs cx l g wr jx (by omega)
          rw [HG.out] at hRT
          refine hRT.mono ?_
          rintro e w5 ⟨a5, c5, rfl, o5, b5⟩
          have z5 := b5.size
          have hx5 := (b5.block _ hlx).trans GX.out
          have HX5 := Lib.hid hx5
          have hl5 := box_lt hx5
          clear q0 q1 q2 q3 q4 hRT
          obtain ⟨q0, q1, q2, q3, q4, q5, q6, q7, q8, q9⟩ := five_cells hx5
          have hpn : w41.heap.size ≠ w5.heap.size := by omega
          have hpn2 := Ne.symm hpn
          clear hx5
          obtain ⟨G, hG⟩ : ∃ G, G = ageN xs g := ⟨_, rfl⟩
          dsimp only
          rw [← hG]
          have HGE := Lib.hid hG
          clear hG
          go_wp2
          go_roundw
          case rel =>
            have B5 := hb.trans (b5.mono hb.size)
            refine ⟨k + 1, a5, c5, G, by omega, by go_num, by rw [HGE.out]; exact HV.out, by rw [HGE.out]; exact HA.out, ?_, ?_, ?_⟩
            · exact (((((B5.setCell (Nat.le_refl _) _).setCell (Nat.le_refl _) _).setCell (Nat.le_refl _) _).setCell (Nat.le_refl _) _).setCell (Nat.le_refl _) _).alloc (by simp; omega) _
            · exact Gts.keep (own_cells (own_set (own_set (own_set (own_set (own_set o5 _ _ (by simp; omega)) _ _ (by simp; omega)) _ _ (by simp; omega)) _ _ (by simp; omega)) _ _ (by simp; omega))) (Keeps.alloc _ _)
            · exact box_alloc (five_set (five_set (five_set (five_set (five_set HX5.out _) _) _) _) _) _
          case measure => simp [intOf]; omega
        · have hk4 : k = 4 := by omega
          subst hk4
          have hne := ready_pos hg (by omega) (by omega)
          have HRd := implRecvReady_any r t ax xs cx l g wr jx (by omega)
          obtain ⟨M, hM⟩ : ∃ M, M = readyN r t xs g := ⟨_, rfl⟩
          rw [← hM] at HRd hne
          have hMb : (M != 0) = true := by simpa using hne
          clear hM hne hlt
          go_wp2_with fail
          refine HRd.mono ?_
          rintro e w5 ⟨rfl, b5⟩
          go_wp2
          go_ret
          exact ⟨rfl, (B43.trans (hb.mono B43.size)).trans (b5.mono (Nat.le_trans B43.size hb.size))⟩

set_option linter.unusedVariables false in
set_option maxRecDepth 100000 in
theorem FnReadyLate_lifted (os : Os) (started : os.Started) (H : Type) (enc : TypeId × Value → H) :
    ReturnsInHanded {} Try.checked os 3 .any (Rows.fnReadyLateSpec.pre6 enc Try.prog Try.f3 Rows.fnReadyLateRow.domain false) (Rows.fnReadyLateSpec.post enc Try.prog Try.f3 false true false false) := by
  refine returnsInHanded_of_change (C := Try.checked) own_knob started (by kernel_rfl) Try.func3
    (ChangeSpec.witness6 (enc := enc) (C := Try.checked) false ⟨#[], #[.slice none 0 0], []⟩ 8 (by kernel_rfl) (by kernel_rfl) (by kernel_rfl) (by kernel_rfl)) ?_
  intro W base args ds gs before hval0 hW hcnd _
  have hval : ∀ (j : Nat) t v, Try.f3.params[j]? = some t → args[j]? = some v → Value.okWide Try.prog W .any base t v := hval0
  have hW' := hW
  obtain ⟨p, q, hA0, hV, rfl, hfz, hnd⟩ := hW
  have hA : DataW.TrodAll enc Try.prog W 0 (fun _ => true) true Try.f3.params.toList args.toList ds p := hA0
  rw [Try.params3] at hA hval
  obtain ⟨v0, vs0, d0, ds0, p0, q0, hargs, rfl, rfl, h0, r0⟩ := trodAll_cons hA
  obtain ⟨rfl, rfl, rfl⟩ := trodAll_nil r0
  obtain rfl : args = #[v0] := by cases args; simp_all
  obtain ⟨rfl, rfl⟩ := trodVars_none hV
  have k0 := h0
  have lt0 : ∀ x ∈ p0, x.block < W.heap.size := by obtain ⟨m, hm⟩ := k0; exact DataW.trod_lt m _ _ _ hm
  obtain ⟨a0, len0, cap0, rfl⟩ := okWide_slice Try.underlying22 (hval 0 22 v0 rfl rfl)
  obtain ⟨z0, rfl, lc0, lm0, rz0⟩ : ∃ z : List Int, len0 = z.length ∧ z.length ≤ cap0 ∧ cap0 ≤ maxLen ∧ Bytes W a0 z := by
    obtain ⟨fuel, hf⟩ := h0
    obtain ⟨ao, cap, z, e, h1, h2, h3⟩ := rd_bytes hf
    simp [Value.cells] at e
    obtain ⟨rfl, rfl, rfl⟩ := e
    exact ⟨z, rfl, h1, h2, h3⟩
  have lb0 : z0.length ≤ cap0 := lc0
  clear hA0 hval0
  refine (FnReadyLate_walk a0 z0 cap0 W rz0 lc0 lm0).mono fun e W' ⟨he, bel⟩ => ?_
  subst he
  exact ⟨_, rfl, _, _, _, [], _, [], hW', trodAll_mk1 (shut_bool Try.underlying4 _), (trodAll_cons_mk (Below.trod laid_out (by kernel_rfl) (of_decide_eq_true (by kernel_rfl)) k0 bel lt0) trodAll_mk0), rfl, bel.frame _, fun h => by cases h⟩

theorem FnReadyLate_holds : Rows.FnReadyLateSaid :=
  OpenClaim.holds_of_wide 3 Try.f3 rfl rfl rfl rfl rfl rfl rfl ⟨rfl, rfl, rfl, rfl, rfl⟩ rfl rfl rfl rfl rfl (by kernel_rfl) Try.func3 (by kernel_rfl)
    (of_decide_eq_true (by kernel_rfl)) (by unfold Func.isWrapper; first | (rw [if_pos (by decide +kernel)]; kernel_rfl) | (rw [if_neg (by decide +kernel)]; exact ⟨rfl, rfl⟩))
    (fun os started H enc _ => FnReadyLate_lifted os started H enc)
end Go.Proofs.Ytmmdbbnmifpciaa
