/- The program's RecordsText. -/
import Derived.Test.YtnapcacgdidgdaaDoorDec
import Derived.Test.YtnapcacgdidgdaaDoorBuild
import Derived.Lib.AppendIntMem
namespace Go.Proofs.YtnapcacgdidgdaaDoor
open Go.RowKit

/-- The library's one table that is read. -/
def Tab (w : World) : Prop := Lib.TabIs Tryd.prog w "internal/strconv.uint64pow10" .u64 Lib.pow10Tab
theorem var_below {P : Program} {W W' : World} {n : String} {cs : Array Value} (h : W.var? P n = some cs) (b : Below W.heap.size W W') : W'.var? P n = some cs := by
  unfold World.var? at h ⊢
  cases hg : P.globalNamed n with
  | none => simp [hg] at h
  | some g =>
    simp only [hg, Option.bind_some] at h ⊢
    have hlt : g < W.heap.size := by
      rcases Nat.lt_or_ge g W.heap.size with h' | h'
      · exact h'
      · simp [Array.getElem?_eq_none h'] at h
    rw [b.block g hlt]
    exact h
theorem Tab.below {w w' : World} (h : Tab w) (b : Below w.heap.size w w') : Tab w' := var_below (P := Tryd.prog) h b
theorem itoa_any (n : Int) (w : World) (h : Tab w) (h0 : 0 ≤ n) (h1 : n ≤ 9999) : Calls Tryd.prog 17 #[.int .i64 n] w fun e w' => e = .returned (.string ⟨(Lib.decDigits n.toNat).toArray⟩) ∧ Below w.heap.size w w' := by
  refine (Tryd.strconv_Itoa n (by omega) (by omega) w h).mono ?_
  rintro e w' ⟨rfl, k, os, rfl⟩
  exact ⟨by rw [Lib.itoa, if_neg (by omega)], Lib.below_grow _ w (Nat.le_refl _) k os⟩
/-- A builder of this call's, in block b, that holds the bytes l. -/
def Bld (B b : Nat) (l : List UInt8) (w : World) : Prop := Lib.IsBuilder 40 5 B b (Lib.byteCells l) w
theorem bldAt_below {B b : Nat} {p : Value} {bs : List Value} {w w' : World} (h : Lib.BuilderAt 40 5 B b p bs w) (k : Below w.heap.size w w') : Lib.BuilderAt 40 5 B b p bs w' := by
  have hlt := h.lt
  obtain ⟨hB, v, hb, hown, hne⟩ := h
  obtain ⟨ao, cp, rfl⟩ : ∃ ao cp, v = .slice ao bs.length cp := by
    rcases hown.2 with ⟨hv, h0⟩ | ⟨g, cap, cur, hv, _⟩
    · exact ⟨none, 0, by rw [hv, h0]⟩
    · exact ⟨_, _, hv⟩
  exact ⟨hB, _, (k.block b hlt).trans hb, own_below hown k, hne⟩
theorem Bld.below {B b : Nat} {l : List UInt8} {w w' : World} (h : Bld B b l w) (k : Below w.heap.size w w') : Bld B b l w' := by
  rcases h with h | h
  · exact .inl (bldAt_below h k)
  · exact .inr (bldAt_below h k)
theorem ws_any (B b : Nat) (l m : List UInt8) (w : World) (h : Bld B b l w) (hlen : l.length + m.length ≤ 1048576) (hBw : B ≤ w.heap.size) :
    Calls Tryd.prog 16 #[.pointer (some ⟨b, 0, none⟩), .string ⟨m.toArray⟩] w fun e w' => e = .returned (.tuple #[.int .i64 m.length, .nilIface]) ∧ Bld B b (l ++ m) w' ∧ Below B w w' ∧ Lib.OthersKept 5 (some b) w w' := by
  have hs : (ByteArray.mk m.toArray).size = m.length := by show m.toArray.size = _; simp
  refine (writeString_any B b _ ⟨m.toArray⟩ w h (by rw [Lib.byteCells_length, hs]; exact hlen) hBw).mono ?_
  rintro e w' ⟨rfl, h1, h2, h3⟩
  exact ⟨by rw [hs], .inr (by rw [Lib.byteCells_append]; exact h1), h2, h3⟩
theorem wb_any (B b : Nat) (l : List UInt8) (x : UInt8) (c : Int) (hc : c = x.toNat) (w : World) (h : Bld B b l w) (hlen : l.length + 1 ≤ 1048576) (hBw : B ≤ w.heap.size) :
    Calls Tryd.prog 18 #[.pointer (some ⟨b, 0, none⟩), .int .u8 c] w fun e w' => e = .returned .nilIface ∧ Bld B b (l ++ [x]) w' ∧ Below B w w' ∧ Lib.OthersKept 5 (some b) w w' := by
  subst hc
  refine (writeByte_any B b _ _ w h (by rw [Lib.byteCells_length]; exact hlen) hBw).mono ?_
  rintro e w' ⟨rfl, h1, h2, h3⟩
  exact ⟨rfl, .inr (by rw [Lib.byteCells_append]; exact h1), h2, h3⟩
theorem rec_kept {b r : Nat} {t x y : Int} {w w' : World} (k : Lib.OthersKept 5 (some b) w w') (h : w.heap[r]? = some (.cells #[.int .i64 t, .int .i64 x, .int .i64 y] 29 (0, 0))) (hr : r ≠ b) :
    w'.heap[r]? = some (.cells #[.int .i64 t, .int .i64 x, .int .i64 y] 29 (0, 0)) :=
  k r _ h (by simpa using hr) fun c fz e => by injection e with _ e2 _; exact absurd e2 (by decide)
theorem and15 (b : Int) (h0 : 0 ≤ b) (h1 : b ≤ 255) : bits .and .i64 b 15 = b % 16 := by
  obtain ⟨k, rfl⟩ := Int.eq_ofNat_of_zero_le h0
  have : ∀ k : Fin 256, bits .and .i64 ((k.val : Nat) : Int) 15 = ((k.val : Nat) : Int) % 16 := by decide +kernel
  exact this ⟨k, by omega⟩
theorem hex_index (k : Int) (h0 : 0 ≤ k) (h1 : k ≤ 15) (W : World) : (Instr.index 9 (.string hex16) (.int .i64 k)).run Tryd.prog W = .ok (.int .u8 (hexB k).toNat) W := by
  obtain ⟨j, rfl⟩ := Int.eq_ofNat_of_zero_le h0
  rw [run_index_string W _ _ _ _ Tryd.underlying9, dif_pos ⟨h0, by show _ < (16 : Int); omega⟩]
  have := hex_at ⟨j, by omega⟩
  simp only [Int.toNat_natCast]
  rw [this]

theorem rec_cells {w : World} {r : Nat} {t x y : Int} (h : w.heap[r]? = some (.cells #[.int .i64 t, .int .i64 x, .int .i64 y] 29 (0, 0))) :
    w.cell? ⟨r, 0, none⟩ = some (.int .i64 t) ∧ w.cell? ⟨r, 1, none⟩ = some (.int .i64 x) ∧ w.cell? ⟨r, 2, none⟩ = some (.int .i64 y) ∧ w.frozen? ⟨r, 0, none⟩ = false ∧ w.frozen? ⟨r, 1, none⟩ = false ∧ w.frozen? ⟨r, 2, none⟩ = false := by
  refine ⟨?_, ?_, ?_, Lib.frozen_of_heap h _, Lib.frozen_of_heap h _, Lib.frozen_of_heap h _⟩ <;> (rw [Lib.cell_of_heap h]; rfl)


set_option maxRecDepth 100000 in
set_option maxHeartbeats 4000000 in
theorem implRecordsText_any (ao : Option Addr) (rs : List Rec) (c : Nat) (w : World) (hx : Recs w ao rs) (lx : rs.length ≤ 4611686018427387904) (hT : Tab w) :
    Calls Tryd.prog 7 #[.slice ao rs.length c] w fun e w' => e = .returned (.string ⟨(textL rs).toArray⟩) ∧ Below w.heap.size w w' := by
  cases hv : recsB rs
  · rw [textL_no hv]
    go_enter Tryd.func7, Tryd.ntmps7
    go_wp2_with fail
    refine (implRecordsValid_any ao rs c w hx (by omega)).mono ?_
    rintro e w1 ⟨rfl, hb1⟩
    go_wp2
    go_ret
    exact ⟨rfl, hb1⟩
  · have HL := Lib.hid (textL_yes hv)
    go_enter Tryd.func7, Tryd.ntmps7
    go_wp2_with fail
    refine (implRecordsValid_any ao rs c w hx (by omega)).mono ?_
    rintro e w1 ⟨rfl, hb1⟩
    have z1 := hb1.size
    go_wp2
    go_loopw [11] (fun i wr => ∃ k : Nat, k ≤ rs.length ∧ i = .int .i64 k ∧ Bld w1.heap.size w1.heap.size (textOf (rs.take k)) wr ∧ Below w1.heap.size w1 wr) (fun i _ => rs.length - (intOf i).toNat)
    case atStart => exact ⟨0, Nat.zero_le _, rfl, Lib.fresh_isBuilder _ _ w1, (Below.refl _ _).alloc (Nat.le_refl _) _⟩
    case round =>
      obtain ⟨k, hk, rfl, hI, hb⟩ := hrel
      have zr := hb.size
      by_cases hlt : k < rs.length
      · obtain ⟨b, off, ⟨t, x, y⟩, rfl, er, _, x0, x1, x2⟩ := ((hx.below hb1).below hb).at_ hlt
        have hr := recB_facts (recsB_at hv er)
        dsimp only at x0 x1 x2 hr
        have hlen := textOf_take_len hv k
        obtain ⟨L, hL⟩ : ∃ L, L = textOf (rs.take k) := ⟨_, rfl⟩
        have hN := Lib.hid (show textOf (rs.take (k + 1)) = L ++ lineOf ⟨t, x, y⟩ by rw [hL]; exact textOf_snoc er)
        have hi1 := fun W => hex_index (y / 16) (by omega) (by omega) W
        have hi2 := fun W => hex_index (y % 16) (by omega) (by omega) W
        unfold hex16 at hi1 hi2
        have hand := and15 y (by omega) (by omega)
        have hdl : (Lib.decDigits t.toNat).length ≤ 4 := dec_len 3 _ (by omega)
        rw [← hL] at hI hlen
        clear hL er hx
        obtain ⟨D, hD⟩ : ∃ D, D = Lib.decDigits t.toNat := ⟨_, rfl⟩
        have HD := Lib.hid hD
        rw [← hD] at hdl
        clear hD
        go_wp2_with fail
        refine name_calls fun W hW => ?_
        have hbW : Below w1.heap.size w1 W := by rw [hW]; exact hb.alloc zr _
        have hIW : Bld w1.heap.size w1.heap.size L W := by rw [hW]; exact hI.below ((Below.refl _ _).alloc (Nat.le_refl _) _)
        have hrW : W.heap[wr.heap.size]? = some (.cells #[.int .i64 t, .int .i64 x, .int .i64 y] 29 (0, 0)) := by rw [hW]; exact heap_alloc_new _ _
        have zW : wr.heap.size < W.heap.size := by rw [hW]; simp
        have hTW : Tab W := (hT.below hb1).below hbW
        have hne : wr.heap.size ≠ w1.heap.size := by
          rcases hI with h | h
          · have := h.lt; omega
          · have := h.lt; omega
        clear x0 x1 x2 hI hW hb
        refine (itoa_any t W hTW hr.1 hr.2.1).mono ?_
        rintro e w2 ⟨rfl, b2⟩
        have hI2 := hIW.below b2
        have hr2 := (b2.block _ zW).trans hrW
        have B2 : Below w1.heap.size w1 w2 := hbW.trans (b2.mono hbW.size)
        clear hIW hrW hbW b2
        rw [← HD.out]
        go_wp2_with fail
        refine (ws_any _ _ L D w2 hI2 (by omega) B2.size).mono ?_
        rintro e w3 ⟨rfl, hI3, b3, k3⟩
        have hr3 := rec_kept k3 hr2 hne
        have B3 := B2.trans b3
        obtain ⟨c0, c1, c2, f0, f1, f2⟩ := rec_cells hr3
        clear hI2 hr2 B2 b3 k3
        rcases (show x = 0 ∨ x = 1 by omega) with rfl | rfl
        · go_wp2_with fail
          refine (ws_any _ _ (L ++ D) [32, 60, 32] w3 hI3 (by rw [List.length_append]; simp only [List.length_cons, List.length_nil]; omega) B3.size).mono ?_
          rintro e w4 ⟨rfl, hI4, b4, k4⟩
          have hr4 := rec_kept k4 hr3 hne
          have B4 := B3.trans b4
          obtain ⟨d0, d1, d2, g0, g1, g2⟩ := rec_cells hr4
          clear hI3 hr3 B3 b4 k4 c0 c1 c2 f0 f1 f2
          go_wp2_with fail
          refine (wb_any _ _ (L ++ D ++ [32, 60, 32]) (hexB (y / 16)) _ rfl w4 hI4 (by simp only [List.length_append, List.length_cons, List.length_nil]; omega) B4.size).mono ?_
          rintro e w5 ⟨rfl, hI5, b5, k5⟩
          have hr5 := rec_kept k5 hr4 hne
          have B5 := B4.trans b5
          obtain ⟨c0, c1, c2, f0, f1, f2⟩ := rec_cells hr5
          clear hI4 hr4 B4 b5 k5 d0 d1 d2 g0 g1 g2
          go_wp2_with fail
          refine (wb_any _ _ (L ++ D ++ [32, 60, 32] ++ [hexB (y / 16)]) (hexB (y % 16)) _ rfl w5 hI5 (by simp only [List.length_append, List.length_cons, List.length_nil]; omega) B5.size).mono ?_
          rintro e w6 ⟨rfl, hI6, b6, k6⟩
          have B6 := B5.trans b6
          clear hI5 hr5 B5 b6 k6 c0 c1 c2 f0 f1 f2
          go_wp2_with fail
          refine (wb_any _ _ (L ++ D ++ [32, 60, 32] ++ [hexB (y / 16)] ++ [hexB (y % 16)]) 10 _ rfl w6 hI6 (by simp only [List.length_append, List.length_cons, List.length_nil]; omega) B6.size).mono ?_
          rintro e w7 ⟨rfl, hI7, b7, k7⟩
          have B7 := B6.trans b7
          clear hI6 B6 b7 k7
          go_wp2
          go_roundw
          case rel =>
            refine ⟨k + 1, by omega, by go_num, ?_, B7⟩
            have e1 : textOf (rs.take (k + 1)) = L ++ D ++ [32, 60, 32] ++ [hexB (y / 16)] ++ [hexB (y % 16)] ++ [10] := by
              rw [hN.out, lineOf, HD.out]
              simp [signB]
            rw [e1]
            exact hI7
          case measure => simp [intOf]; omega
        · go_wp2_with fail
          refine (ws_any _ _ (L ++ D) [32, 62, 32] w3 hI3 (by rw [List.length_append]; simp only [List.length_cons, List.length_nil]; omega) B3.size).mono ?_
          rintro e w4 ⟨rfl, hI4, b4, k4⟩
          have hr4 := rec_kept k4 hr3 hne
          have B4 := B3.trans b4
          obtain ⟨d0, d1, d2, g0, g1, g2⟩ := rec_cells hr4
          clear hI3 hr3 B3 b4 k4 c0 c1 c2 f0 f1 f2
          go_wp2_with fail
          refine (wb_any _ _ (L ++ D ++ [32, 62, 32]) (hexB (y / 16)) _ rfl w4 hI4 (by simp only [List.length_append, List.length_cons, List.length_nil]; omega) B4.size).mono ?_
          rintro e w5 ⟨rfl, hI5, b5, k5⟩
          have hr5 := rec_kept k5 hr4 hne
          have B5 := B4.trans b5
          obtain ⟨c0, c1, c2, f0, f1, f2⟩ := rec_cells hr5
          clear hI4 hr4 B4 b5 k5 d0 d1 d2 g0 g1 g2
          go_wp2_with fail
          refine (wb_any _ _ (L ++ D ++ [32, 62, 32] ++ [hexB (y / 16)]) (hexB (y % 16)) _ rfl w5 hI5 (by simp only [List.length_append, List.length_cons, List.length_nil]; omega) B5.size).mono ?_
          rintro e w6 ⟨rfl, hI6, b6, k6⟩
          have B6 := B5.trans b6
          clear hI5 hr5 B5 b6 k6 c0 c1 c2 f0 f1 f2
          go_wp2_with fail
          refine (wb_any _ _ (L ++ D ++ [32, 62, 32] ++ [hexB (y / 16)] ++ [hexB (y % 16)]) 10 _ rfl w6 hI6 (by simp only [List.length_append, List.length_cons, List.length_nil]; omega) B6.size).mono ?_
          rintro e w7 ⟨rfl, hI7, b7, k7⟩
          have B7 := B6.trans b7
          clear hI6 B6 b7 k7
          go_wp2
          go_roundw
          case rel =>
            refine ⟨k + 1, by omega, by go_num, ?_, B7⟩
            have e1 : textOf (rs.take (k + 1)) = L ++ D ++ [32, 62, 32] ++ [hexB (y / 16)] ++ [hexB (y % 16)] ++ [10] := by
              rw [hN.out, lineOf, HD.out]
              simp [signB]
            rw [e1]
            exact hI7
          case measure => simp [intOf]; omega
      · have he : k = rs.length := by omega
        subst he
        go_wp2_with fail
        refine (Tryd.Builder_String_any _ _ _ wr hI zr).mono ?_
        rintro e w9 ⟨rfl, b9⟩
        go_wp2
        go_ret
        rw [HL.out]
        exact ⟨rfl, hb1.trans ((hb.trans b9).mono z1)⟩
end Go.Proofs.YtnapcacgdidgdaaDoor
