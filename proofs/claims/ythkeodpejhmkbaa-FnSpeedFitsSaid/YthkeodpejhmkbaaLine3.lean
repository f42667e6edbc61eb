/- Lines: the samples of bytes; formats and bytes are drawn. -/
import Derived.Test.YthkeodpejhmkbaaLine2
namespace Go.Proofs.Ythkeodpejhmkbaa
open Go.RowKit

set_option maxHeartbeats 4000000 in
set_option maxRecDepth 100000 in
theorem lineOf_any (b p s : Int) (ao : Option Addr) (ys : List Int) (d : Nat) (idle : Int) (w : World) (hy : Ints w ao ys) (ly : ys.length ≤ 1048576) (hb9 : b ≤ 9) (hi : idle ≤ 30) :
    Calls Try.prog 37 #[.agg #[.int .i64 b, .int .i64 p, .int .i64 s], .slice ao ys.length d, .int .i64 idle] w fun e w' => ∃ (a : Option Addr) (zs : List Int) (c : Nat) (ok : Bool), e = .returned (.tuple #[.slice a zs.length c, .bool ok]) ∧ zs.length ≤ 500 ∧ OwnI w' w.heap.size a c zs ∧ Below w.heap.size w w' := by
  have HFV := Lib.hid (fun v => formatValid_any b p s v)
  have b0 : Below w.heap.size w ((w.alloc (.cells #[.int .i64 b, .int .i64 p, .int .i64 s] 40)).alloc (.cells #[] 3)) := ((Below.refl _ _).alloc (Nat.le_refl _) _).alloc (by simp) _
  have H0 : ((w.alloc (.cells #[.int .i64 b, .int .i64 p, .int .i64 s] 40)).alloc (.cells #[] 3)).heap[w.heap.size]? = some (.cells #[.int .i64 b, .int .i64 p, .int .i64 s] 40 (0, 0)) := box_alloc (heap_new_at w _ _ rfl) _
  have o0 : OwnI ((w.alloc (.cells #[.int .i64 b, .int .i64 p, .int .i64 s] 40)).alloc (.cells #[] 3)) w.heap.size (some ⟨w.heap.size + 1, 0, none⟩) 0 [] := own_made_at (w.alloc _) #[] _ _ 0 _ _ (by simp) (by simp) (by simp) rfl
  have hz0 : w.heap.size + 1 < ((w.alloc (.cells #[.int .i64 b, .int .i64 p, .int .i64 s] 40)).alloc (.cells #[] 3)).heap.size := by simp
  cases hv : fmtB b p s
  · rw [hv] at HFV
    go_enter Try.func37, Try.ntmps37
    go_wp2_with fail
    refine (HFV.out _).mono ?_
    rintro e w1 ⟨rfl, b1⟩
    go_wp2
    go_ret2
    exact ⟨_, [], 0, false, rfl, by simp, OwnI.below o0 b1, below_join b0 b1⟩
  rw [hv] at HFV
  have hff := fmtB_facts hv
  cases hid : inB idle 0 20
  · go_enter Try.func37, Try.ntmps37
    go_wp2_with fail
    refine (HFV.out _).mono ?_
    rintro e w1 ⟨rfl, b1⟩
    go_wp2_with fail
    refine (l6In_any idle 0 20 w1).mono ?_
    rintro e w2 ⟨rfl, rfl⟩
    go_wp2
    go_ret2
    exact ⟨_, [], 0, false, rfl, by simp, OwnI.below o0 b1, below_join b0 b1⟩
  by_cases hl : (20 : Int) < (ys.length : Int)
  · go_enter Try.func37, Try.ntmps37
    go_wp2_with fail
    refine (HFV.out _).mono ?_
    rintro e w1 ⟨rfl, b1⟩
    go_wp2_with fail
    refine (l6In_any idle 0 20 w1).mono ?_
    rintro e w2 ⟨rfl, rfl⟩
    go_wp2
    go_ret2
    exact ⟨_, [], 0, false, rfl, by simp, OwnI.below o0 b1, below_join b0 b1⟩
  have hl20 : (ys.length : Int) ≤ 20 := by omega
  have hid2 : 0 ≤ idle ∧ idle ≤ 20 := by simpa [inB] using hid
  have hi0 := hid2.1
  have hi20 := hid2.2
  have hb5 := hff.1.1
  have hb8 := hff.1.2
  obtain ⟨nb, rfl⟩ : ∃ nb : Nat, b = (nb : Int) := Int.eq_ofNat_of_zero_le (by omega)
  obtain ⟨ni, hni⟩ : ∃ ni : Nat, idle = (ni : Int) := Int.eq_ofNat_of_zero_le (by omega)
  have hni20 : ni ≤ 20 := by omega
  have HNI := Lib.hid hni
  have HV := Lib.hid hv
  clear hl hid2 hff hni
  go_enter Try.func37, Try.ntmps37
  go_wp2_with fail
  refine (HFV.out _).mono ?_
  rintro e w1 ⟨rfl, b1⟩
  go_wp2_with fail
  refine (l6In_any idle 0 20 w1).mono ?_
  rintro e w2 ⟨rfl, rfl⟩
  have hb := below_join b0 b1
  have hH := (b1.block _ (by omega)).trans H0
  have o := OwnI.below o0 b1
  clear b0 b1 H0 o0 hv HFV hz0
  go_wp2_with fail
  clear hid
  go_loopw [8, 9] (fun v i wr => ∃ (k : Nat) (L : List Int) (a : Option Addr) (c : Nat), k ≤ ys.length ∧ i = .int .i64 k ∧ v = .slice a L.length c ∧ L.length ≤ 68 * k ∧ OwnI wr w.heap.size a c L ∧ Below w.heap.size w wr ∧ wr.heap[w.heap.size]? = some (.cells #[.int .i64 (nb : Int), .int .i64 p, .int .i64 s] 40 (0, 0))) (fun _ i _ => ys.length - (intOf i).toNat)
  case atStart => exact ⟨0, [], _, 0, Nat.zero_le _, rfl, rfl, by simp, o, hb, hH⟩
  case round =>
    clear o hb hH
    obtain ⟨k, L, a, c, hk, rfl, rfl, hL, o, hb, hH⟩ := hrel
    have HL := Lib.hid hL
    have hlL : L.length ≤ 1360 := by omega
    obtain ⟨c0, c1, c2, _, _, _⟩ := three_cells hH
    have hwz := box_lt hH
    by_cases hlt : k < ys.length
    case neg =>
      have he : (ys.length : Int) ≤ (k : Int) := by omega
      by_cases h5 : (500 : Int) < (L.length : Int)
      · go_wp2
        go_ret2
        exact ⟨_, [], 0, false, rfl, by simp, own_made_at wr #[] _ _ 0 _ _ rfl hb.size (by simp) rfl, hb.alloc hb.size _⟩
      · have h5' : (L.length : Int) ≤ 500 := by omega
        go_wp2
        go_ret2
        exact ⟨a, L, c, .inr rfl, by omega, o, hb⟩
    have hltI : (k : Int) < (ys.length : Int) := by omega
    obtain ⟨bl, off, x, rfl, ex, x0⟩ := (hy.below hb).at_ hlt
    have EX := Lib.hid ex
    clear ex
    have HBY := Lib.hid (fun v => l1Byte_any nb p s x v (by omega))
    have hpw := pow_bd (show nb ≤ 9 by omega)
    have hpw8 : (2 ^ nb : Nat) ≤ 256 := Nat.pow_le_pow_right (by omega) (show nb ≤ 8 by omega)
    generalize (2 ^ nb : Nat) = pw at *
    have hxq := (show inB x 0 ((pw : Int) - 1) = true → 0 ≤ x ∧ x ≤ 255 by intro h; simp [inB] at h; omega)
    cases hby : inB x 0 ((pw : Int) - 1)
    · rw [hby] at HBY
      clear hxq
      go_wp2_with fail
      go_region_held3 (fun v => v.cell? ⟨w.heap.size, 0, none⟩ = some (.int .i64 (nb : Int)) ∧ v.cell? ⟨w.heap.size, 1, none⟩ = some (.int .i64 p) ∧ v.cell? ⟨w.heap.size, 2, none⟩ = some (.int .i64 s) ∧ v.cell? ⟨bl, off + k, none⟩ = some (.int .i64 x))
        (go_keep)
        (first
          | (go_at_call 40
             refine (HBY.out _).mono ?_
             rintro e w5 ⟨rfl, b5⟩
             have b5w : Below wr.heap.size wr w5 := (Below.refl _ wr).drew.trans b5
             have c0' := Keeps.of_below b5w _ _ _ c0
             have c1' := Keeps.of_below b5w _ _ _ c1
             have c2' := Keeps.of_below b5w _ _ _ c2
             have x0' := Keeps.of_below b5w _ _ _ x0))
      have o5 := OwnI.below o b5w
      have hb5 := hb.trans (b5w.mono hb.size)
      go_wp2
      go_ret2
      exact ⟨_, [], 0, false, rfl, by simp, own_made_at w5 #[] _ _ 0 _ _ rfl hb5.size (by simp) rfl, hb5.alloc hb5.size _⟩
    have hx := hxq hby
    have hx0 := hx.1
    have hx1 := hx.2
    rw [hby] at HBY
    clear hxq hx hby
    go_wp2_with fail
    go_region_held3 (fun v => v.cell? ⟨w.heap.size, 0, none⟩ = some (.int .i64 (nb : Int)) ∧ v.cell? ⟨w.heap.size, 1, none⟩ = some (.int .i64 p) ∧ v.cell? ⟨w.heap.size, 2, none⟩ = some (.int .i64 s) ∧ v.cell? ⟨bl, off + k, none⟩ = some (.int .i64 x))
      (go_keep)
      (first
        | (go_at_call 40
           refine (HBY.out _).mono ?_
           rintro e w5 ⟨rfl, b5⟩
           have b5w : Below wr.heap.size wr w5 := (Below.refl _ wr).drew.trans b5
           have c0' := Keeps.of_below b5w _ _ _ c0
           have c1' := Keeps.of_below b5w _ _ _ c1
           have c2' := Keeps.of_below b5w _ _ _ c2
           have x0' := Keeps.of_below b5w _ _ _ x0))
    have hb2 := hb.trans (b5w.mono hb.size)
    have hH2 := (b5w.block _ hwz).trans hH
    have o2 := OwnI.below o b5w
    clear o hb hH x0 x0' c0 c1 c2 c0' c1' c2' b5w
    go_wp2_with fail
    go_loopw [8, 10] (fun v i wr => ∃ (k2 : Nat) (L2 : List Int) (a : Option Addr) (c : Nat), k2 ≤ ni ∧ i = .int .i64 k2 ∧ v = .slice a L2.length c ∧ L2.length ≤ 68 * k + k2 ∧ OwnI wr w.heap.size a c L2 ∧ Below w.heap.size w wr ∧ wr.heap[w.heap.size]? = some (.cells #[.int .i64 (nb : Int), .int .i64 p, .int .i64 s] 40 (0, 0))) (fun _ i _ => ni - (intOf i).toNat)
    case atStart => exact ⟨0, L, a, c, Nat.zero_le _, rfl, rfl, by omega, o2, hb2, hH2⟩
    case round =>
      clear o2 hb2 hH2
      obtain ⟨k2, L2, a, c, hk2, rfl, rfl, hL2, o, hb, hH⟩ := hrel
      have hl2 : L2.length ≤ 1400 := by omega
      have HL2 := Lib.hid hL2
      by_cases hlt2 : (k2 : Int) < idle
      · have hk2n : k2 < ni := by have := HNI.out; omega
        clear hL2
        go_wp2_with (
          at_builtin
          refine name_list fun W hW => ?_
          have hoW : OwnI W w.heap.size a c L2 := by rw [hW]; exact World.ownsRow.alloc o _
          have hbW : Below w.heap.size w W := by rw [hW]; exact hb.alloc hb.size _
          have hHW : W.heap[w.heap.size]? = some (.cells #[.int .i64 (nb : Int), .int .i64 p, .int .i64 s] 40 (0, 0)) := by rw [hW]; exact box_alloc hH _
          have hcW : Cells W (some ⟨wr.heap.size, 0, none⟩) [.int .i64 1] := by rw [hW]; exact cells_new _ #[.int .i64 1] _ rfl
          clear hW
          refine wpList_append_row W rfl _ _ _ rfl w.heap.size 3 _ 1 8 Try.underlying22 int_info rfl (by decide) a (L2).length c _ (by rfl) hoW (some ⟨wr.heap.size, 0, none⟩) 1 1 [.int .i64 1] (by rfl) hcW rfl (by simp [Value.oneCell']) (by simp) (by simp only [maxLen]; omega) (by omega) hbW.size ?_
          intro a2 c2 w2 ho2 hg2
          have hb2 := below_append hbW hoW hg2 hbW.size
          have hH2 := box_grow hHW hg2 (own_block_of (own_box_ne hoW hHW (by decide)))
          have o2 := OwnI.snoc ho2
          clear hoW ho2 hg2 hcW hHW hbW)
        go_roundw
        case rel => exact ⟨k2 + 1, L2 ++ [1], a2, c2, by omega, by go_num, by simp, by rw [List.length_append]; have := HL2.out; simp; omega, o2, hb2, hH2⟩
        case measure => simp [intOf]; omega
      have hk2i : idle ≤ (k2 : Int) := by omega
      have hl3 : L2.length ≤ 68 * k + 20 := by omega
      obtain ⟨c0, c1, c2, _, _, _⟩ := three_cells hH
      have hwz := box_lt hH
      obtain ⟨bl', off', x', hbe, ex', x0⟩ := (hy.below hb).at_ hlt
      injection hbe with hbe
      injection hbe with hbe1 hbe2 _
      subst hbe1 hbe2
      rw [EX.out] at ex'
      obtain rfl : x = x' := by simpa using ex'
      clear hlt2 hL2 ex'
      have HBI := Lib.hid (fun v => l1Bits_any (nb : Int) p s x v HV.out hx0 hx1)
      have H3 := Lib.hid hH
      have H4 := Lib.hid o
      have H5 := Lib.hid hb
      clear hH o hb
      go_wp2_with fail
      go_region_held3 (fun v => v.cell? ⟨w.heap.size, 0, none⟩ = some (.int .i64 (nb : Int)) ∧ v.cell? ⟨w.heap.size, 1, none⟩ = some (.int .i64 p) ∧ v.cell? ⟨w.heap.size, 2, none⟩ = some (.int .i64 s) ∧ v.cell? ⟨bl, off + k, none⟩ = some (.int .i64 x))
        (go_keep)
        (first
          | (go_at_call 41
             refine (HBI.out _).mono ?_
             rintro e w7 ⟨ab, bits, cb, rfl, lb1, lb12, ob, b7⟩
             have b7w : Below wr.heap.size wr w7 := (Below.refl _ wr).drew.trans b7
             have c0' := Keeps.of_below b7w _ _ _ c0
             have c1' := Keeps.of_below b7w _ _ _ c1
             have c2' := Keeps.of_below b7w _ _ _ c2
             have x0' := Keeps.of_below b7w _ _ _ x0))
      have ob7 : OwnI w7 wr.heap.size ab cb bits := ob
      have hapA : Apart a ab := (own_in H4.out).apart (own_in ob7) (.inl (Nat.le_refl _))
      have hb2 := H5.out.trans (b7w.mono H5.out.size)
      have hH2 := (b7w.block _ hwz).trans H3.out
      have o2 := OwnI.below H4.out b7w
      have i2 := ob7.ints
      have hlt7 : ∀ q, ab = some q → q.block < w7.heap.size := fun q hq => (own_in ob7 q hq).2
      obtain ⟨ti, hti, hz0, hz1, hz2⟩ := info_parts int_info
      have HTI := Lib.hid hti
      have HZ0 := Lib.hid hz0
      have HZ1 := Lib.hid hz1
      have HZ2 := Lib.hid hz2
      clear x0 x0' c0 c1 c2 c0' c1' c2' b7w b7 ob ob7 H3 H4 H5 hti hz0 hz1 hz2
      go_wp2_with fail
      go_loopw [8, 12] (fun v i wr => ∃ (k3 : Nat) (L3 : List Int) (a : Option Addr) (c : Nat), k3 ≤ 4 * bits.length ∧ i = .int .i64 k3 ∧ v = .slice a L3.length c ∧ L3.length ≤ 68 * k + 20 + k3 ∧ OwnI wr w.heap.size a c L3 ∧ Below w.heap.size w wr ∧ wr.heap[w.heap.size]? = some (.cells #[.int .i64 (nb : Int), .int .i64 p, .int .i64 s] 40 (0, 0)) ∧ Ints wr ab bits ∧ Apart a ab ∧ w7.heap.size ≤ wr.heap.size) (fun _ i _ => 4 * bits.length - (intOf i).toNat)
      case atStart => exact ⟨0, L2, a, c, Nat.zero_le _, rfl, rfl, by omega, o2, hb2, hH2, i2, hapA, Nat.le_refl _⟩
      case round =>
        clear o2 hb2 hH2 i2 hapA
        obtain ⟨k3, L3, a, c, hk3, rfl, rfl, hL3, o, hb, hH, i3, hap, hzz⟩ := hrel
        have hl3' : L3.length ≤ 1450 := by omega
        have HL3 := Lib.hid hL3
        have HK3 := Lib.hid hk3
        clear hL3
        by_cases hlt3 : (k3 : Int) < (bits.length : Int) * 4
        · have hk3n : k3 < 4 * bits.length := by omega
          have hq : k3 / 4 < bits.length := by omega
          have hq0 : (0 : Int) ≤ (k3 : Int) / 4 := by omega
          have hq1 : (k3 : Int) / 4 < (bits.length : Int) := by omega
          obtain ⟨j, hj⟩ : ∃ j : Nat, (k3 : Int) / 4 = (j : Int) := ⟨k3 / 4, by omega⟩
          have hjb : j < bits.length := by omega
          have hjI : (j : Int) < (bits.length : Int) := by omega
          have hj0 : (0 : Int) ≤ (j : Int) := by omega
          obtain ⟨gb, offb, y, rfl, _, y0⟩ := i3.at_ hjb
          have hgb7 := hlt7 _ rfl
          have hne : (Value.slice a L3.length c).ownBlock ≠ some gb := by
            intro e
            cases a with
            | none => simp [Value.ownBlock] at e
            | some q => simp only [Value.ownBlock, Option.some.injEq] at e; exact hap q _ rfl rfl e
          have HNE := Lib.hid hne
          clear hq hq0 hq1 hne
          go_wp2_with (
            at_builtin
            refine name_list fun W hW => ?_
            have hoW : OwnI W w.heap.size a c L3 := by rw [hW]; exact World.ownsRow.alloc o _
            have hbW : Below w.heap.size w W := by rw [hW]; exact hb.alloc hb.size _
            have hHW : W.heap[w.heap.size]? = some (.cells #[.int .i64 (nb : Int), .int .i64 p, .int .i64 s] 40 (0, 0)) := by rw [hW]; exact box_alloc hH _
            have hNW := World.news_of_block (w := W) (B := wr.heap.size) (cs := #[.int .i64 y]) (t := 3) (fr := (0, 0)) (by rw [hW]; exact heap_new_at wr _ _ rfl)
            have hiW : Ints W (some ⟨gb, offb, none⟩) bits := by rw [hW]; exact i3.keep (Keeps.alloc _ _)
            have hzW : w7.heap.size ≤ W.heap.size := by rw [hW]; simp; omega
            clear hW
            refine wpList_append_lies (w := W) rfl _ _ _ rfl w.heap.size 3 ti _ 1 8 Try.underlying22 HTI.out HZ0.out HZ1.out HZ2.out rfl (by decide) (.slice a L3.length c) L3.length _ (by rfl) hoW ⟨wr.heap.size, 0, none⟩ 1 1 [.int .i64 y] (by rfl) rfl hNW (by simp [Value.oneCell']) (by omega) (by simp only [maxLen]; omega) (by omega) hbW.size W.heap.size rfl ?_
            intro g2 c2 w2 ho2 hg2 hor hlt2
            have hb2 := below_append hbW hoW hg2 hbW.size
            have hH2 := box_grow hHW hg2 (own_block_of (own_box_ne hoW hHW (by decide)))
            have o2 := OwnI.snoc ho2
            have i2 : Ints w2 (some ⟨gb, offb, none⟩) bits := cells_grow hiW hg2 HNE.out
            have hap2 : Apart (some ⟨g2, 0, none⟩) (some ⟨gb, offb, none⟩) := fun q r hq hr e => by
              injection hq with hq
              injection hr with hr
              subst hq hr
              dsimp only at e
              subst e
              rcases hor with h | h
              · exact HNE.out h
              · dsimp only at hgb7; omega
            have hz2 := Nat.le_trans hzW hg2.size
            clear hoW ho2 hg2 hNW hHW hbW hiW hor)
          go_roundw
          case rel => exact ⟨k3 + 1, L3 ++ [y], _, c2, by omega, by go_num, by rw [List.length_append]; rfl, by rw [List.length_append]; have := HL3.out; simp; omega, o2, hb2, hH2, i2, hap2, hz2⟩
          case measure => simp [intOf]; omega
        · have he : (bits.length : Int) * 4 ≤ (k3 : Int) := by omega
          clear hlt3
          go_wp2
          go_roundw
          case rel => exact ⟨k + 1, L3, a, c, by omega, by go_num, rfl, by have := HL3.out; have := HK3.out; omega, o, hb, hH⟩
          case measure => simp [intOf]; omega
end Go.Proofs.Ythkeodpejhmkbaa
