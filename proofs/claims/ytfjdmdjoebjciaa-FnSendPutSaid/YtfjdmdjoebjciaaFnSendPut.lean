/- FnSendPut: A byte to send waits behind the others. No conditions beyond the statement's own. -/
import Derived.Test.YtfjdmdjoebjciaaSendWaits
namespace Go.Proofs.Ytfjdmdjoebjciaa
open Go.ChangeShapes Go.WideShapes Go.ChangeAt Go.RowKit

set_option maxHeartbeats 4000000 in
set_option maxRecDepth 100000 in
theorem FnSendPut_walk (a0 : Option Addr) (z0 : List Int) (cap0 : Nat) (w : World) (rz0 : Bytes w a0 z0) (lc0 : z0.length ≤ cap0) (_lm0 : cap0 ≤ maxLen) :
    Calls Try.prog 11 #[.slice a0 z0.length cap0] w fun e w' => e = .returned (.bool true) ∧ Below w.heap.size w w' := by
  unfold maxLen at _lm0
  by_cases hn0 : (z0.length : Int) ≤ 1048576
  case neg =>
    have hn0' : (1048576 : Int) < (z0.length : Int) := by omega
    go_enter Try.func11, Try.ntmps11
    go_wp2
    go_ret
    exact ⟨rfl, Below.refl _ _⟩
  go_enter Try.func11, Try.ntmps11
  have B1 : Below w.heap.size w w := Below.refl _ _
  go_wp2_with fail
  refine (drawSendPut_any a0 z0 cap0 w rz0 lc0 (by omega)).mono ?_
  rintro e w2 ⟨r, a, xs, c, hh, l, x, rfl, lx, r0, r1, h0, h1, l0, l1, x0, x1, ox, b3⟩
  have zw2 := b3.size
  have B4 := B1.trans (b3.mono B1.size)
  clear B1
  have ix : Ints w2 a xs := own_cells ox
  have HC := Lib.hid (own_nilcap ox)
  clear ox
  have HI := Lib.hid (fun v h => implSendPut_any r a xs c hh l x v h (by omega))
  have HJ := Lib.hid (fun v h => specSendPut_any r a xs c hh l x v h (by omega) HC.out)
  cases hB : sputB r hh l xs x
  · rw [sputR_no hB] at HI HJ
    go_wp2_with fail
    refine name_calls fun W5 hW5 => ?_
    have zW5 : W5.heap.size = w2.heap.size + 1 := by rw [hW5]; simp
    have H60 := (heap_new_at w2 (.cells #[.int .i64 r, .slice a xs.length c, .int .i64 hh, .int .i64 l] 47 (0, 0)) (w2.heap.size) (by simp))
    rw [← hW5] at H60
    have H6 := Lib.hid H60
    clear H60
    have B7 := (below_alloc3 B4 (.cells #[.int .i64 r, .slice a xs.length c, .int .i64 hh, .int .i64 l] 47 (0, 0)))
    rw [← hW5] at B7
    clear B4
    replace ix := (Ints.keep ix (Keeps.alloc _ (.cells #[.int .i64 r, .slice a xs.length c, .int .i64 hh, .int .i64 l] 47 (0, 0))))
    rw [← hW5] at ix
    clear hW5
    refine (HI.out W5 ix).mono ?_
    rintro e w8 ⟨a1, c1, rfl, o1, b9⟩
    have zw8 := b9.size
    have B10 := B7.trans (b9.mono B7.size)
    clear B7
    replace H6 := Lib.hid ((b9.block _ (Array.getElem?_eq_some_iff.1 H6.out).1).trans H6.out)
    replace ix := Ints.below ix b9
    have i1 : Ints w8 a1 [] := own_cells o1
    have hcap1 := own_cap o1
    clear o1
    obtain ⟨cc11, cc12, cc13, cc14⟩ := cells4 H6.out
    have ll15 := (Array.getElem?_eq_some_iff.1 H6.out).1
    go_wp2_with fail
    clear cc11 cc12 cc13 cc14 ll15
    refine name_calls fun W16 hW16 => ?_
    have zW16 : W16.heap.size = w8.heap.size + 1 := by rw [hW16]; simp
    have H170 := (heap_new_at w8 (.cells #[.int .i64 0, .slice a1 0 c1, .int .i64 0, .int .i64 0] 47 (0, 0)) (w8.heap.size) (by simp))
    rw [← hW16] at H170
    have H17 := Lib.hid H170
    clear H170
    have B18 := (below_alloc3 B10 (.cells #[.int .i64 0, .slice a1 0 c1, .int .i64 0, .int .i64 0] 47 (0, 0)))
    rw [← hW16] at B18
    clear B10
    have H60 := (box_alloc H6.out (.cells #[.int .i64 0, .slice a1 0 c1, .int .i64 0, .int .i64 0] 47 (0, 0)))
    rw [← hW16] at H60
    clear H6
    have H6 := Lib.hid H60
    clear H60
    replace ix := (Ints.keep ix (Keeps.alloc _ (.cells #[.int .i64 0, .slice a1 0 c1, .int .i64 0, .int .i64 0] 47 (0, 0))))
    rw [← hW16] at ix
    replace i1 := (Ints.keep i1 (Keeps.alloc _ (.cells #[.int .i64 0, .slice a1 0 c1, .int .i64 0, .int .i64 0] 47 (0, 0))))
    rw [← hW16] at i1
    clear hW16
    refine (HJ.out W16 ix).mono ?_
    rintro e w19 ⟨a3, c3, rfl, o3, b20⟩
    have zw19 := b20.size
    have B21 := B18.trans (b20.mono B18.size)
    clear B18
    replace H6 := Lib.hid ((b20.block _ (Array.getElem?_eq_some_iff.1 H6.out).1).trans H6.out)
    replace H17 := Lib.hid ((b20.block _ (Array.getElem?_eq_some_iff.1 H17.out).1).trans H17.out)
    replace ix := Ints.below ix b20
    replace i1 := Ints.below i1 b20
    have i3 : Ints w19 a3 [] := own_cells o3
    clear o3
    obtain ⟨cc22, cc23, cc24, cc25⟩ := cells4 H17.out
    have ll26 := (Array.getElem?_eq_some_iff.1 H17.out).1
    obtain ⟨cc27, cc28, cc29, cc30⟩ := cells4 H6.out
    have ll31 := (Array.getElem?_eq_some_iff.1 H6.out).1
    go_wp2_with fail
    clear cc22 cc23 cc24 cc25 ll26 cc27 cc28 cc29 cc30 ll31
    refine name_calls fun W32 hW32 => ?_
    have zW32 : W32.heap.size = w19.heap.size + 1 := by rw [hW32]; simp
    have H330 := (heap_new_at w19 (.cells #[.int .i64 0, .slice a3 0 c3, .int .i64 0, .int .i64 0] 47 (0, 0)) (w19.heap.size) (by simp))
    rw [← hW32] at H330
    have H33 := Lib.hid H330
    clear H330
    have B34 := (below_alloc3 B21 (.cells #[.int .i64 0, .slice a3 0 c3, .int .i64 0, .int .i64 0] 47 (0, 0)))
    rw [← hW32] at B34
    clear B21
    have H60 := (box_alloc H6.out (.cells #[.int .i64 0, .slice a3 0 c3, .int .i64 0, .int .i64 0] 47 (0, 0)))
    rw [← hW32] at H60
    clear H6
    have H6 := Lib.hid H60
    clear H60
    have H170 := (box_alloc H17.out (.cells #[.int .i64 0, .slice a3 0 c3, .int .i64 0, .int .i64 0] 47 (0, 0)))
    rw [← hW32] at H170
    clear H17
    have H17 := Lib.hid H170
    clear H170
    replace ix := (Ints.keep ix (Keeps.alloc _ (.cells #[.int .i64 0, .slice a3 0 c3, .int .i64 0, .int .i64 0] 47 (0, 0))))
    rw [← hW32] at ix
    replace i1 := (Ints.keep i1 (Keeps.alloc _ (.cells #[.int .i64 0, .slice a3 0 c3, .int .i64 0, .int .i64 0] 47 (0, 0))))
    rw [← hW32] at i1
    replace i3 := (Ints.keep i3 (Keeps.alloc _ (.cells #[.int .i64 0, .slice a3 0 c3, .int .i64 0, .int .i64 0] 47 (0, 0))))
    rw [← hW32] at i3
    clear hW32
    refine (sameSend_any 0 0 0 0 0 0 a1 a3 [] [] c1 c3 W32 i1 i3 (by simp) (by simp)).mono ?_
    rintro e w35 ⟨rfl, b36⟩
    have zw35 := b36.size
    have B37 := B34.trans (b36.mono B34.size)
    clear B34
    replace H6 := Lib.hid ((b36.block _ (Array.getElem?_eq_some_iff.1 H6.out).1).trans H6.out)
    replace H17 := Lib.hid ((b36.block _ (Array.getElem?_eq_some_iff.1 H17.out).1).trans H17.out)
    replace H33 := Lib.hid ((b36.block _ (Array.getElem?_eq_some_iff.1 H33.out).1).trans H33.out)
    replace ix := Ints.below ix b36
    replace i1 := Ints.below i1 b36
    replace i3 := Ints.below i3 b36
    obtain ⟨cc38, cc39, cc40, cc41⟩ := cells4 H17.out
    have ll42 := (Array.getElem?_eq_some_iff.1 H17.out).1
    obtain ⟨cc43, cc44, cc45, cc46⟩ := cells4 H33.out
    have ll47 := (Array.getElem?_eq_some_iff.1 H33.out).1
    obtain ⟨cc48, cc49, cc50, cc51⟩ := cells4 H6.out
    have ll52 := (Array.getElem?_eq_some_iff.1 H6.out).1
    go_wp2_with fail
    clear cc38 cc39 cc40 cc41 ll42 cc43 cc44 cc45 cc46 ll47 cc48 cc49 cc50 cc51 ll52
    refine (sameSend_any 0 0 0 0 0 0 a1 a3 [] [] c1 c3 w35 i1 i3 (by simp) (by simp)).mono ?_
    rintro e w53 ⟨rfl, b54⟩
    have zw53 := b54.size
    have B55 := B37.trans (b54.mono B37.size)
    clear B37
    replace H6 := Lib.hid ((b54.block _ (Array.getElem?_eq_some_iff.1 H6.out).1).trans H6.out)
    replace H17 := Lib.hid ((b54.block _ (Array.getElem?_eq_some_iff.1 H17.out).1).trans H17.out)
    replace H33 := Lib.hid ((b54.block _ (Array.getElem?_eq_some_iff.1 H33.out).1).trans H33.out)
    replace ix := Ints.below ix b54
    replace i1 := Ints.below i1 b54
    replace i3 := Ints.below i3 b54
    go_wp2
    go_ret
    exact ⟨rfl, B55⟩
  · have hff := hB
    simp only [sputB, putB, Bool.and_eq_true, decide_eq_true_eq] at hff
    obtain ⟨hv, hf, hb, hl⟩ := hff
    have hfa := fifoB_facts hf
    have HS := Lib.hid (show sendVB r (xs ++ [x]) hh l = true from sendVB_snoc hv hb hl)
    have hR := sputR_yes hB
    obtain ⟨L, hL⟩ : ∃ L, L = xs ++ [x] := ⟨_, rfl⟩
    rw [← hL] at hR HS
    rw [hR] at HI HJ
    have hLl : (L.length : Int) - 1 = (xs.length : Int) := by rw [hL]; simp
    have hLn : L.length = xs.length + 1 := by rw [hL]; simp
    have hLx : L[xs.length]? = some x := by rw [hL]; simp
    have hLt : L.take xs.length = xs := by rw [hL]; simp
    have hL17 : L.length ≤ 17 := by omega
    have HLx := Lib.hid hLx
    have HLt := Lib.hid hLt
    have HLn := Lib.hid hLn
    clear hL hR hLx hLt hLn hfa
    go_wp2_with fail
    refine name_calls fun W56 hW56 => ?_
    have zW56 : W56.heap.size = w2.heap.size + 1 := by rw [hW56]; simp
    have H570 := (heap_new_at w2 (.cells #[.int .i64 r, .slice a xs.length c, .int .i64 hh, .int .i64 l] 47 (0, 0)) (w2.heap.size) (by simp))
    rw [← hW56] at H570
    have H57 := Lib.hid H570
    clear H570
    have B58 := (below_alloc3 B4 (.cells #[.int .i64 r, .slice a xs.length c, .int .i64 hh, .int .i64 l] 47 (0, 0)))
    rw [← hW56] at B58
    clear B4
    replace ix := (Ints.keep ix (Keeps.alloc _ (.cells #[.int .i64 r, .slice a xs.length c, .int .i64 hh, .int .i64 l] 47 (0, 0))))
    rw [← hW56] at ix
    clear hW56
    refine (HI.out W56 ix).mono ?_
    rintro e w59 ⟨a1, c1, rfl, o1, b60⟩
    have zw59 := b60.size
    have B61 := B58.trans (b60.mono B58.size)
    clear B58
    replace H57 := Lib.hid ((b60.block _ (Array.getElem?_eq_some_iff.1 H57.out).1).trans H57.out)
    replace ix := Ints.below ix b60
    have i1 : Ints w59 a1 L := own_cells o1
    have hcap1 := own_cap o1
    clear o1
    obtain ⟨cc62, cc63, cc64, cc65⟩ := cells4 H57.out
    have ll66 := (Array.getElem?_eq_some_iff.1 H57.out).1
    go_wp2_with fail
    clear cc62 cc63 cc64 cc65 ll66
    refine name_calls fun W67 hW67 => ?_
    have zW67 : W67.heap.size = w59.heap.size + 1 := by rw [hW67]; simp
    have H680 := (heap_new_at w59 (.cells #[.int .i64 r, .slice a1 L.length c1, .int .i64 hh, .int .i64 l] 47 (0, 0)) (w59.heap.size) (by simp))
    rw [← hW67] at H680
    have H68 := Lib.hid H680
    clear H680
    have B69 := (below_alloc3 B61 (.cells #[.int .i64 r, .slice a1 L.length c1, .int .i64 hh, .int .i64 l] 47 (0, 0)))
    rw [← hW67] at B69
    clear B61
    have H570 := (box_alloc H57.out (.cells #[.int .i64 r, .slice a1 L.length c1, .int .i64 hh, .int .i64 l] 47 (0, 0)))
    rw [← hW67] at H570
    clear H57
    have H57 := Lib.hid H570
    clear H570
    replace ix := (Ints.keep ix (Keeps.alloc _ (.cells #[.int .i64 r, .slice a1 L.length c1, .int .i64 hh, .int .i64 l] 47 (0, 0))))
    rw [← hW67] at ix
    replace i1 := (Ints.keep i1 (Keeps.alloc _ (.cells #[.int .i64 r, .slice a1 L.length c1, .int .i64 hh, .int .i64 l] 47 (0, 0))))
    rw [← hW67] at i1
    clear hW67
    refine (HJ.out W67 ix).mono ?_
    rintro e w70 ⟨a3, c3, rfl, o3, b71⟩
    have zw70 := b71.size
    have B72 := B69.trans (b71.mono B69.size)
    clear B69
    replace H57 := Lib.hid ((b71.block _ (Array.getElem?_eq_some_iff.1 H57.out).1).trans H57.out)
    replace H68 := Lib.hid ((b71.block _ (Array.getElem?_eq_some_iff.1 H68.out).1).trans H68.out)
    replace ix := Ints.below ix b71
    replace i1 := Ints.below i1 b71
    have i3 : Ints w70 a3 L := own_cells o3
    clear o3
    obtain ⟨cc73, cc74, cc75, cc76⟩ := cells4 H68.out
    have ll77 := (Array.getElem?_eq_some_iff.1 H68.out).1
    obtain ⟨cc78, cc79, cc80, cc81⟩ := cells4 H57.out
    have ll82 := (Array.getElem?_eq_some_iff.1 H57.out).1
    go_wp2_with fail
    clear cc73 cc74 cc75 cc76 ll77 cc78 cc79 cc80 cc81 ll82
    refine name_calls fun W83 hW83 => ?_
    have zW83 : W83.heap.size = w70.heap.size + 1 := by rw [hW83]; simp
    have H840 := (heap_new_at w70 (.cells #[.int .i64 r, .slice a3 L.length c3, .int .i64 hh, .int .i64 l] 47 (0, 0)) (w70.heap.size) (by simp))
    rw [← hW83] at H840
    have H84 := Lib.hid H840
    clear H840
    have B85 := (below_alloc3 B72 (.cells #[.int .i64 r, .slice a3 L.length c3, .int .i64 hh, .int .i64 l] 47 (0, 0)))
    rw [← hW83] at B85
    clear B72
    have H570 := (box_alloc H57.out (.cells #[.int .i64 r, .slice a3 L.length c3, .int .i64 hh, .int .i64 l] 47 (0, 0)))
    rw [← hW83] at H570
    clear H57
    have H57 := Lib.hid H570
    clear H570
    have H680 := (box_alloc H68.out (.cells #[.int .i64 r, .slice a3 L.length c3, .int .i64 hh, .int .i64 l] 47 (0, 0)))
    rw [← hW83] at H680
    clear H68
    have H68 := Lib.hid H680
    clear H680
    replace ix := (Ints.keep ix (Keeps.alloc _ (.cells #[.int .i64 r, .slice a3 L.length c3, .int .i64 hh, .int .i64 l] 47 (0, 0))))
    rw [← hW83] at ix
    replace i1 := (Ints.keep i1 (Keeps.alloc _ (.cells #[.int .i64 r, .slice a3 L.length c3, .int .i64 hh, .int .i64 l] 47 (0, 0))))
    rw [← hW83] at i1
    replace i3 := (Ints.keep i3 (Keeps.alloc _ (.cells #[.int .i64 r, .slice a3 L.length c3, .int .i64 hh, .int .i64 l] 47 (0, 0))))
    rw [← hW83] at i3
    clear hW83
    refine (sameSend_any r hh l r hh l a1 a3 L L c1 c3 W83 i1 i3 (by omega) (by omega)).mono ?_
    rintro e w86 ⟨rfl, b87⟩
    have zw86 := b87.size
    have B88 := B85.trans (b87.mono B85.size)
    clear B85
    replace H57 := Lib.hid ((b87.block _ (Array.getElem?_eq_some_iff.1 H57.out).1).trans H57.out)
    replace H68 := Lib.hid ((b87.block _ (Array.getElem?_eq_some_iff.1 H68.out).1).trans H68.out)
    replace H84 := Lib.hid ((b87.block _ (Array.getElem?_eq_some_iff.1 H84.out).1).trans H84.out)
    replace ix := Ints.below ix b87
    replace i1 := Ints.below i1 b87
    replace i3 := Ints.below i3 b87
    obtain ⟨g1, off1, y, rfl, ey, hy⟩ := i1.at_ (k := xs.length) (by have := HLn.out; omega)
    rw [HLx.out] at ey
    obtain rfl : x = y := by simpa using ey
    clear ey
    have py := fun p : After w86 => p.cell hy
    have hn0 : (0 : Int) ≤ (xs.length : Int) := by omega
    have hn1 : (xs.length : Int) < (L.length : Int) := by have := HLn.out; omega
    have hn2 : (xs.length : Int) ≤ (c1 : Int) := by have := HLn.out; omega
    have hnc : xs.length ≤ c1 := by omega
    have hc0 : c1 ≠ 0 := by have := HLn.out; omega
    have hS := HS.out
    have HF := Lib.hid (fun v h => implSendValid_any r (some ⟨g1, off1, none⟩) L c1 hh l v h (by omega))
    rw [hS] at HF
    obtain ⟨u89, u90, u91, u92⟩ := cells4 H68.out
    have pf93 := fun p : After w86 => p.cell u89
    have pf94 := fun p : After w86 => p.cell u90
    have pf95 := fun p : After w86 => p.cell u91
    have pf96 := fun p : After w86 => p.cell u92
    clear u89 u90 u91 u92
    obtain ⟨u97, u98, u99, u100⟩ := cells4 H57.out
    have pf101 := fun p : After w86 => p.cell u97
    have pf102 := fun p : After w86 => p.cell u98
    have pf103 := fun p : After w86 => p.cell u99
    have pf104 := fun p : After w86 => p.cell u100
    clear u97 u98 u99 u100
    have HT := Lib.hid (show Ints w86 (some ⟨g1, off1, none⟩) xs by have := i1.take xs.length; rwa [HLt.out] at this)
    obtain ⟨cc105, cc106, cc107, cc108⟩ := cells4 H68.out
    have ll109 := (Array.getElem?_eq_some_iff.1 H68.out).1
    go_wp2_with fail
    clear cc105 cc106 cc107 cc108 ll109
    refine wp_region_after (by kernel_rfl) (by kernel_rfl) ?_
    repeat (go_big_quiet_step ((first | (go_at_call 39; exact After.call (HF.out _ (Ints.keep i1 (After.keep _)))) | (go_at_call 18; exact After.call (sameInts_below _ a xs xs c1 c _ (HT.out.keep (After.keep _)) (ix.keep (After.keep _)) (by omega) (by omega))))))
    refine wpQuiet_nil ?_
    intro p
    go_wp2
    go_ret
    exact ⟨by simp, B88.trans (p.below.mono B88.size)⟩

set_option linter.unusedVariables false in
set_option maxRecDepth 100000 in
theorem FnSendPut_lifted (os : Os) (started : os.Started) (H : Type) (enc : TypeId × Value → H) :
    ReturnsInHanded {} Try.checked os 11 .any (Rows.fnSendPutSpec.pre6 enc Try.prog Try.f11 Rows.fnSendPutRow.domain false) (Rows.fnSendPutSpec.post enc Try.prog Try.f11 false true false false) := by
  refine returnsInHanded_of_change (C := Try.checked) own_knob started (by kernel_rfl) Try.func11
    (ChangeSpec.witness6 (enc := enc) (C := Try.checked) false ⟨#[], #[.slice none 0 0], []⟩ 8 (by kernel_rfl) (by kernel_rfl) (by kernel_rfl) (by kernel_rfl)) ?_
  intro W base args ds gs before hval0 hW hcnd _
  have hval : ∀ (j : Nat) t v, Try.f11.params[j]? = some t → args[j]? = some v → Value.okWide Try.prog W .any base t v := hval0
  have hW' := hW
  obtain ⟨p, q, hA0, hV, rfl, hfz, hnd⟩ := hW
  have hA : DataW.TrodAll enc Try.prog W 0 (fun _ => true) true Try.f11.params.toList args.toList ds p := hA0
  rw [Try.params11] at hA hval
  obtain ⟨v0, vs0, d0, ds0, p0, q0, hargs, rfl, rfl, h0, r0⟩ := trodAll_cons hA
  obtain ⟨rfl, rfl, rfl⟩ := trodAll_nil r0
  obtain rfl : args = #[v0] := by cases args; simp_all
  obtain ⟨rfl, rfl⟩ := trodVars_none hV
  have k0 := h0
  have lt0 : ∀ x ∈ p0, x.block < W.heap.size := by obtain ⟨m, hm⟩ := k0; exact DataW.trod_lt m _ _ _ hm
  obtain ⟨a0, len0, cap0, rfl⟩ := okWide_slice Try.underlying22 (hval 0 22 v0 rfl rfl)
  obtain ⟨z0, rfl, lc0, lm0, rz0⟩ : ∃ z : List Int, len0 = z.length ∧ z.length ≤ cap0 ∧ cap0 ≤ maxLen ∧ Bytes W a0 z := by
    obtain ⟨fuel, hf⟩ := h0
    obtain ⟨ao, cap, z, e, h1, h2, h3⟩ := rd_bytes hf
    simp [Value.cells] at e
    obtain ⟨rfl, rfl, rfl⟩ := e
    exact ⟨z, rfl, h1, h2, h3⟩
  have lb0 : z0.length ≤ cap0 := lc0
  clear hA0 hval0
  refine (FnSendPut_walk a0 z0 cap0 W rz0 lc0 lm0).mono fun e W' ⟨he, bel⟩ => ?_
  subst he
  exact ⟨_, rfl, _, _, _, [], _, [], hW', trodAll_mk1 (shut_bool Try.underlying4 _), (trodAll_cons_mk (Below.trod laid_out (by kernel_rfl) (of_decide_eq_true (by kernel_rfl)) k0 bel lt0) trodAll_mk0), rfl, bel.frame _, fun h => by cases h⟩

theorem FnSendPut_holds : Rows.FnSendPutSaid :=
  OpenClaim.holds_of_wide 11 Try.f11 rfl rfl rfl rfl rfl rfl rfl ⟨rfl, rfl, rfl, rfl, rfl⟩ rfl rfl rfl rfl rfl (by kernel_rfl) Try.func11 (by kernel_rfl)
    (of_decide_eq_true (by kernel_rfl)) (by unfold Func.isWrapper; first | (rw [if_pos (by decide +kernel)]; kernel_rfl) | (rw [if_neg (by decide +kernel)]; exact ⟨rfl, rfl⟩))
    (fun os started H enc _ => FnSendPut_lifted os started H enc)
end Go.Proofs.Ytfjdmdjoebjciaa
