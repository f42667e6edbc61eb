/- Lines: a line is drawn; the draws of the statements. -/
import Derived.Test.YthkeodpejhmkbaaLine4
import Derived.Deep.RegionHeld3
namespace Go.Proofs.Ythkeodpejhmkbaa
open Go.RowKit

theorem FS.below {w W W' : World} {rb b M : Nat} {z cs : Array Value} {T e : TypeId} {size : Nat} {a : Option Addr} {n c : Nat} {vs : List Value} (h : FS w W rb b M z cs T e size a n c vs) (hb : Below W.heap.size W W') : FS w W' rb b M z cs T e size a n c vs :=
  { rl := h.rl, bl := h.bl, ne := h.ne, R := h.R.below hb, G := only_grown (row := none) h.G (only_below hb none) (fun g hg => by cases hg), H0 := (hb.block _ h.zlt).trans h.H0, H := (hb.block _ h.blt).trans h.H, o := own_below h.o hb }
theorem FS.far {w W W' : World} {rb b M : Nat} {z cs : Array Value} {T e : TypeId} {size : Nat} {n c : Nat} {vs : List Value} {r : Nat} (h : FS w W rb b M z cs T e size none n c vs) (g : W.grownBy W' (some r)) (hr : b < r) : FS w W' rb b M z cs T e size none n c vs := by
  have h1 := h.rl
  have h2 := h.bl
  exact { rl := h.rl, bl := h.bl, ne := h.ne, R := h.R.grown g (fun k hk => by injection hk; omega), G := only_grown h.G g (fun k hk => by injection hk; omega), H0 := box_only' h.H0 g (by omega), H := box_only' h.H g (by omega), o := own_only h.o g (fun q hq => by cases hq) }
theorem OwnI.take {w : World} {base c : Nat} {ao : Option Addr} {L : List Int} (h : OwnI w base ao c L) {k : Nat} (hk : k ≤ L.length) (hg : ∃ g, ao = some ⟨g, 0, none⟩) : OwnI w base ao c (L.take k) := by
  obtain ⟨g, rfl⟩ := hg
  have hl : (L.take k).length = k := by rw [List.length_take]; omega
  unfold OwnI at h ⊢
  rw [hl]
  refine ⟨by rw [List.length_map, hl, Nat.mul_one], ?_⟩
  rcases h.2 with ⟨hv, _⟩ | ⟨g', cap, cur, hv, h1, h2, h3, h4, h5, h6⟩
  · cases hv
  · injection hv with e1 e2 e3
    injection e1 with e1
    injection e1 with e1 _ _
    subst e1 e3
    refine .inr ⟨g, c, cur, rfl, h1, h2, by omega, h4, h5, ?_⟩
    have : cur.toList.take (k * 1) = (cur.toList.take (L.length * 1)).take k := by rw [List.take_take, Nat.mul_one, Nat.mul_one, Nat.min_eq_left hk]
    rw [this, h6, List.map_take]
set_option maxHeartbeats 4000000 in
set_option maxRecDepth 100000 in
theorem l91Line_any (rb m : Nat) (w : World) (h : Rd w rb m) (hm : m ≤ 900) :
    Calls Try.prog 32 #[.pointer (some ⟨rb, 0, none⟩)] w fun e w' => ∃ (b p s : Int) (a : Option Addr) (zs : List Int) (c : Nat), e = .returned (.tuple #[.agg #[.int .i64 b, .int .i64 p, .int .i64 s], .slice a zs.length c]) ∧ zs.length ≤ 500 ∧ OwnI w' w.heap.size a c zs ∧ Rd w' rb (m + 40) ∧ w.grownBy w' (some rb) := by
  have hrb := h.lt
  go_enter Try.func32, Try.ntmps32
  go_wp2_with fail
  refine name_calls fun W hW => ?_
  have R : Rd W rb m := by rw [hW]; exact rd_alloc h _
  have G : w.grownBy W (some rb) := by rw [hW]; exact only_below ((Below.refl _ _).alloc (Nat.le_refl _) _) _
  have H0 : W.heap[w.heap.size]? = some (.cells #[.int .i64 0, .int .i64 0, .int .i64 0] 40 (0, 0)) := by rw [hW]; exact heap_new_at _ _ _ rfl
  clear hW h
  refine (l91Format_any rb m W R (by omega)).mono ?_
  rintro e w1 ⟨b, p, s, rfl, hb1, hb9, R1, g1⟩
  have G1 := only_trans G g1
  have H1 := box_only H0 g1 hrb
  have z1 := box_lt H1
  clear R G H0 g1
  go_wp2_with fail
  refine name_wp fun W2 hW2 => ?_
  have F : FS w W2 rb w1.heap.size (m + 10) #[.int .i64 0, .int .i64 0, .int .i64 0] #[.int .i64 b, .int .i64 p, .int .i64 s] 40 3 1 none 0 0 [] := by
    rw [hW2]
    exact { rl := hrb, bl := by omega, ne := by decide, R := rd_alloc R1 _, G := only_alloc G1 _, H0 := box_alloc H1 _, H := heap_new_at _ _ _ rfl, o := World.ownsRow_nil _ _ _ _ }
  clear hW2 R1 G1 H1
  generalize w1.heap.size = b3 at *
  have HF := Lib.hid F
  obtain ⟨c0, c1, c2, _, _, _⟩ := three_cells F.H
  clear F
  go_region_held3 (fun v => v.cell? ⟨b3, 0, none⟩ = some (.int .i64 b) ∧ v.cell? ⟨b3, 1, none⟩ = some (.int .i64 p) ∧ v.cell? ⟨b3, 2, none⟩ = some (.int .i64 s))
    (go_keep)
    (first
      | (go_at_call 38
         refine (l91Bytes_any rb _ b p s _ HF.out.drew.R (by omega)).mono ?_
         rintro e w3 ⟨a3, ys, d3, rfl, ly5, o3, R3, g3⟩
         have F3 := HF.out.drew.pick R3 g3
         have z3 := HF.out.zlt
         obtain ⟨c0', c1', c2', _, _, _⟩ := three_cells F3.H)
      | (go_at_call 34
         refine (pick_any rb _ 6 _ F3.R (by omega)).mono ?_
         rintro e w4 ⟨k4, rfl, k40, k41, R4, g4⟩
         have o4 := own_only o3 g4 (fun q hq => by have := (own_in o3 _ hq).1; simp at this; omega)
         have F4 := F3.pick R4 g4
         obtain ⟨c0', c1', c2', _, _, _⟩ := three_cells F4.H)
      | (go_at_call 37
         refine (lineOf_any b p s a3 ys d3 k4 _ (own_cells o4) (by omega) hb9 (by omega)).mono ?_
         rintro e w5 ⟨al, zs, cl, ok, rfl, lz, ol, b5⟩
         have F := F4.below b5
         have hB := F4.zlt
         have hB3 := F4.blt
         obtain ⟨c0', c1', c2', _, _, _⟩ := three_cells F.H))
  clear HF c0 c1 c2 c0' c1' c2'
  have o4' : OwnI w4 W2.heap.size a3 d3 ys := o4
  clear o4 o3 o4' F3 F4 b5 g3 g4 R3 R4
  generalize w4.heap.size = B4 at *
  clear hb1 hb9 ly5 k40 k41 z3 z1
  cases ok
  · obtain ⟨c0, c1, c2, f0, f1, f2⟩ := three_cells F.H
    obtain ⟨d0, d1, d2, e0, e1, e2⟩ := three_cells F.H0
    have hne := F.bl
    have hne2 : b3 ≠ w.heap.size := by omega
    have hbl3 := F.blt
    have hzl3 := F.zlt
    go_wp2
    refine bodyPost_ret (v := .tuple #[.agg #[.int .i64 b, .int .i64 p, .int .i64 s], .slice (some ⟨w5.heap.size, 0, none⟩) 3 3]) (by simp [results, Try.results32, go_sem, *]) rfl ?_
    obtain ⟨RR, GG, _⟩ := FS.fin F (only_setR (only_setR (only_setR (only_refl _ _) 0 (.int .i64 b)) 1 (.int .i64 p)) 2 (.int .i64 s))
    exact ⟨b, p, s, _, [1, 0, 1], 3, rfl, by simp, own_lit_at _ #[.int .i64 1, .int .i64 0, .int .i64 1] _ _ 3 _ _ (by simp) (by simp; omega) (by simp [maxLen]) rfl, rd_alloc (RR.mono (by omega)) _, only_alloc GG _⟩
  by_cases hz : zs.length = 0
  · have hz0 : (zs.length : Int) ≤ 0 := by omega
    have HZ := Lib.hid hz
    clear hz
    obtain ⟨c0, c1, c2, f0, f1, f2⟩ := three_cells F.H
    obtain ⟨d0, d1, d2, e0, e1, e2⟩ := three_cells F.H0
    have hne := F.bl
    have hne2 : b3 ≠ w.heap.size := by omega
    have hbl3 := F.blt
    have hzl3 := F.zlt
    go_wp2
    refine bodyPost_ret (v := .tuple #[.agg #[.int .i64 b, .int .i64 p, .int .i64 s], .slice (al) (zs.length) (cl)]) (by simp [results, Try.results32, go_sem, *]) rfl ?_
    obtain ⟨RR, GG, _⟩ := FS.fin (F) (only_setR (only_setR (only_setR (only_refl _ _) 0 (.int .i64 b)) 1 (.int .i64 p)) 2 (.int .i64 s))
    exact ⟨b, p, s, al, zs, cl, by first | rfl | (simp; done) | (simp; omega), by first | omega | (simp; done) | (simp; omega), own_base (own_set (own_set (own_set (ol) _ _ (by simp; omega)) _ _ (by simp; omega)) _ _ (by simp; omega)) (by omega), RR.mono (by omega), GG⟩
  have hz1 : (0 : Int) < (zs.length : Int) := by omega
  clear hz
  go_wp2_with fail
  refine (pick_any rb _ ((zs.length : Int)) _ F.R (by omega)).mono ?_
  rintro e w7 ⟨k7, rfl, k70, k71, R', g'⟩
  replace ol := own_only ol g' (fun q hq => by have := (own_in ol _ hq).1; simp at this; omega)
  replace F := F.pick R' g'
  clear R' g'
  obtain ⟨k, rfl⟩ := Int.eq_ofNat_of_zero_le k70
  have hk : k < zs.length := by omega
  have hkI : (k : Int) < (zs.length : Int) := by omega
  have hk0 : (0 : Int) ≤ (k : Int) := by omega
  clear k71 k70
  go_wp2_with fail
  refine (pick_any rb _ (8) _ F.R (by omega)).mono ?_
  rintro e w8 ⟨k8, rfl, k80, k81, R', g'⟩
  replace ol := own_only ol g' (fun q hq => by have := (own_in ol _ hq).1; simp at this; omega)
  replace F := F.pick R' g'
  clear R' g'
  have hcap := own_cap ol
  clear k80 k81
  by_cases h0 : k8 = 0
  · subst h0
    obtain ⟨y, hy⟩ : ∃ y, zs[k]? = some y := ⟨_, List.getElem?_eq_getElem hk⟩
    obtain ⟨v, hv⟩ : ∃ v, IntKind.i64.wrap (1 - y) = v := ⟨_, rfl⟩
    obtain ⟨gl, u, rfl, hgb, hgs, hcu, hfu, oP⟩ := OwnI.put ol hk (v)
    obtain rfl : u = .int .i64 y := by have hcy := own_cell_at ol (j := k) (u := .int .i64 y) (by rw [List.getElem?_map, hy]; rfl); rw [hcu] at hcy; injection hcy
    have hgl3 : gl ≠ b3 := by omega
    have hgl4 := Ne.symm hgl3
    have hglw : gl ≠ w.heap.size := by omega
    have hglw2 := Ne.symm hglw
    have FP := F.far (grown_set w8 ⟨gl, k, none⟩ (.int .i64 (v))) (show b3 < gl by omega)
    have OP := Lib.hid oP
    have HPL : Hid ((zs.set k (v)).length = zs.length) := Lib.hid List.length_set
    obtain ⟨c0, c1, c2, f0, f1, f2⟩ := three_cells F.H
    obtain ⟨d0, d1, d2, e0, e1, e2⟩ := three_cells F.H0
    have hne := F.bl
    have hne2 : b3 ≠ w.heap.size := by omega
    have hbl3 := F.blt
    have hzl3 := F.zlt
    clear ol oP F
    go_wp2
    refine bodyPost_ret (v := .tuple #[.agg #[.int .i64 b, .int .i64 p, .int .i64 s], .slice (some ⟨gl, 0, none⟩) zs.length cl]) (by simp [results, Try.results32, go_sem, *]) rfl ?_
    obtain ⟨RR, GG, _⟩ := FS.fin FP (only_setR (only_setR (only_setR (only_refl _ _) 0 (.int .i64 b)) 1 (.int .i64 p)) 2 (.int .i64 s))
    exact ⟨b, p, s, _, zs.set k (v), cl, by rw [HPL.out], by rw [HPL.out]; exact lz, own_base (own_set (own_set (own_set OP.out _ _ (by simp; omega)) _ _ (by simp; omega)) _ _ (by simp; omega)) (by omega), RR.mono (by omega), GG⟩
  have hb0 : (k8 == 0) = false := by simpa using h0
  by_cases h1 : k8 = 1
  · subst h1
    clear h0 hb0
    obtain ⟨y, hy⟩ : ∃ y, zs[k]? = some y := ⟨_, List.getElem?_eq_getElem hk⟩
    obtain ⟨v, hv⟩ : ∃ v, IntKind.i64.wrap (1 - y) = v := ⟨_, rfl⟩
    obtain ⟨gl, u, rfl, hgb, hgs, hcu, hfu, oP⟩ := OwnI.put ol hk (v)
    obtain rfl : u = .int .i64 y := by have hcy := own_cell_at ol (j := k) (u := .int .i64 y) (by rw [List.getElem?_map, hy]; rfl); rw [hcu] at hcy; injection hcy
    have hgl3 : gl ≠ b3 := by omega
    have hgl4 := Ne.symm hgl3
    have hglw : gl ≠ w.heap.size := by omega
    have hglw2 := Ne.symm hglw
    have FP := F.far (grown_set w8 ⟨gl, k, none⟩ (.int .i64 (v))) (show b3 < gl by omega)
    have OP := Lib.hid oP
    have HPL : Hid ((zs.set k (v)).length = zs.length) := Lib.hid List.length_set
    obtain ⟨c0, c1, c2, f0, f1, f2⟩ := three_cells F.H
    obtain ⟨d0, d1, d2, e0, e1, e2⟩ := three_cells F.H0
    have hne := F.bl
    have hne2 : b3 ≠ w.heap.size := by omega
    have hbl3 := F.blt
    have hzl3 := F.zlt
    clear ol oP F
    go_wp2
    refine bodyPost_ret (v := .tuple #[.agg #[.int .i64 b, .int .i64 p, .int .i64 s], .slice (some ⟨gl, 0, none⟩) zs.length cl]) (by simp [results, Try.results32, go_sem, *]) rfl ?_
    obtain ⟨RR, GG, _⟩ := FS.fin FP (only_setR (only_setR (only_setR (only_refl _ _) 0 (.int .i64 b)) 1 (.int .i64 p)) 2 (.int .i64 s))
    exact ⟨b, p, s, _, zs.set k (v), cl, by rw [HPL.out], by rw [HPL.out]; exact lz, own_base (own_set (own_set (own_set OP.out _ _ (by simp; omega)) _ _ (by simp; omega)) _ _ (by simp; omega)) (by omega), RR.mono (by omega), GG⟩
  have hb1 : (k8 == 1) = false := by simpa using h1
  by_cases h2 : k8 = 2
  · subst h2
    clear h0 hb0 h1 hb1
    obtain ⟨gl, rfl, hgb, hgs⟩ : ∃ gl, al = some ⟨gl, 0, none⟩ ∧ B4 ≤ gl ∧ gl < w8.heap.size := by
      rcases own_head ol with ⟨_, h0, _⟩ | h
      · omega
      · exact h
    have hc1 : (k : Int) ≤ (cl : Int) := by omega
    have hc0 : cl ≠ 0 := by omega
    have oT := OwnI.take ol (show k ≤ zs.length by omega) ⟨gl, rfl⟩
    have hTl : (zs.take k).length = k := by rw [List.length_take]; omega
    have HT := Lib.hid hTl
    clear hTl
    obtain ⟨c0, c1, c2, f0, f1, f2⟩ := three_cells F.H
    obtain ⟨d0, d1, d2, e0, e1, e2⟩ := three_cells F.H0
    have hne := F.bl
    have hne2 : b3 ≠ w.heap.size := by omega
    have hbl3 := F.blt
    have hzl3 := F.zlt
    go_wp2
    refine bodyPost_ret (v := .tuple #[.agg #[.int .i64 b, .int .i64 p, .int .i64 s], .slice (some ⟨gl, 0, none⟩) k cl]) (by simp [results, Try.results32, go_sem, *]) rfl ?_
    obtain ⟨RR, GG, _⟩ := FS.fin F (only_setR (only_setR (only_setR (only_refl _ _) 0 (.int .i64 b)) 1 (.int .i64 p)) 2 (.int .i64 s))
    exact ⟨b, p, s, _, zs.take k, cl, by rw [HT.out], by rw [HT.out]; omega, own_base (own_set (own_set (own_set oT _ _ (by simp; omega)) _ _ (by simp; omega)) _ _ (by simp; omega)) (by omega), RR.mono (by omega), GG⟩
  have hb2 : (k8 == 2) = false := by simpa using h2
  by_cases h3 : k8 = 3
  · subst h3
    clear h0 hb0 h1 hb1 h2 hb2
    go_wp2_with fail
    refine (pick_any rb _ (3) _ F.R (by omega)).mono ?_
    rintro e w9 ⟨k9, rfl, k90, k91, R', g'⟩
    replace ol := own_only ol g' (fun q hq => by have := (own_in ol _ hq).1; simp at this; omega)
    replace F := F.pick R' g'
    clear R' g'
    obtain ⟨gl, u, rfl, hgb, hgs, hcu, hfu, oP⟩ := OwnI.put ol hk (k9)
    skip
    have hgl3 : gl ≠ b3 := by omega
    have hgl4 := Ne.symm hgl3
    have hglw : gl ≠ w.heap.size := by omega
    have hglw2 := Ne.symm hglw
    have FP := F.far (grown_set w9 ⟨gl, k, none⟩ (.int .i64 (k9))) (show b3 < gl by omega)
    have OP := Lib.hid oP
    have HPL : Hid ((zs.set k (k9)).length = zs.length) := Lib.hid List.length_set
    obtain ⟨c0, c1, c2, f0, f1, f2⟩ := three_cells F.H
    obtain ⟨d0, d1, d2, e0, e1, e2⟩ := three_cells F.H0
    have hne := F.bl
    have hne2 : b3 ≠ w.heap.size := by omega
    have hbl3 := F.blt
    have hzl3 := F.zlt
    clear ol oP F
    go_wp2
    refine bodyPost_ret (v := .tuple #[.agg #[.int .i64 b, .int .i64 p, .int .i64 s], .slice (some ⟨gl, 0, none⟩) zs.length cl]) (by simp [results, Try.results32, go_sem, *]) rfl ?_
    obtain ⟨RR, GG, _⟩ := FS.fin FP (only_setR (only_setR (only_setR (only_refl _ _) 0 (.int .i64 b)) 1 (.int .i64 p)) 2 (.int .i64 s))
    exact ⟨b, p, s, _, zs.set k (k9), cl, by rw [HPL.out], by rw [HPL.out]; exact lz, own_base (own_set (own_set (own_set OP.out _ _ (by simp; omega)) _ _ (by simp; omega)) _ _ (by simp; omega)) (by omega), RR.mono (by omega), GG⟩
  have hb3 : (k8 == 3) = false := by simpa using h3
  clear h0 h1 h2 h3
  obtain ⟨c0, c1, c2, f0, f1, f2⟩ := three_cells F.H
  obtain ⟨d0, d1, d2, e0, e1, e2⟩ := three_cells F.H0
  have hne := F.bl
  have hne2 : b3 ≠ w.heap.size := by omega
  have hbl3 := F.blt
  have hzl3 := F.zlt
  go_wp2
  refine bodyPost_ret (v := .tuple #[.agg #[.int .i64 b, .int .i64 p, .int .i64 s], .slice (al) (zs.length) (cl)]) (by simp [results, Try.results32, go_sem, *]) rfl ?_
  obtain ⟨RR, GG, _⟩ := FS.fin (F) (only_setR (only_setR (only_setR (only_refl _ _) 0 (.int .i64 b)) 1 (.int .i64 p)) 2 (.int .i64 s))
  exact ⟨b, p, s, al, zs, cl, by first | rfl | (simp; done) | (simp; omega), by first | omega | (simp; done) | (simp; omega), own_base (own_set (own_set (own_set (ol) _ _ (by simp; omega)) _ _ (by simp; omega)) _ _ (by simp; omega)) (by omega), RR.mono (by omega), GG⟩
theorem drawRunsOf_any (ao : Option Addr) (bs : List Int) (c : Nat) (w : World) (h : Bytes w ao bs) (hc : bs.length ≤ c) (lx : bs.length ≤ 1048576) :
    Calls Try.prog 22 #[.slice ao bs.length c] w fun e w' => ∃ (a : Option Addr) (xs : List Int) (c : Nat), e = .returned (.slice a xs.length c) ∧ xs.length ≤ 500 ∧ OwnI w' w.heap.size a c xs ∧ Below w.heap.size w w' := by
  go_enter Try.func22, Try.ntmps22
  go_wp2_with fail
  refine (l6Open_any ao bs c w h hc (by omega)).mono ?_
  rintro e w1 ⟨rb, rfl, hrb, R1, b1⟩
  go_wp2_with fail
  refine (l91Line_any rb 0 w1 R1 (by omega)).mono ?_
  rintro e w2 ⟨b, p, s, a, zs, cl, rfl, lz, o2, R2, g2⟩
  have z1 := b1.size
  go_wp2
  go_ret
  have B2 := below_only b1 g2 hrb
  exact ⟨a, zs, cl, rfl, lz, own_base (World.ownsRow.alloc o2 _) z1, B2.alloc B2.size _⟩
theorem drawSpeedOf_any (ao : Option Addr) (bs : List Int) (c : Nat) (w : World) (h : Bytes w ao bs) (hc : bs.length ≤ c) (lx : bs.length ≤ 1048576) :
    Calls Try.prog 24 #[.slice ao bs.length c] w fun e w' => ∃ (a : Option Addr) (xs : List Int) (c : Nat), e = .returned (.slice a xs.length c) ∧ xs.length ≤ 500 ∧ OwnI w' w.heap.size a c xs ∧ Below w.heap.size w w' := by
  go_enter Try.func24, Try.ntmps24
  go_wp2_with fail
  refine (l6Open_any ao bs c w h hc (by omega)).mono ?_
  rintro e w1 ⟨rb, rfl, hrb, R1, b1⟩
  go_wp2_with fail
  refine (l91Line_any rb 0 w1 R1 (by omega)).mono ?_
  rintro e w2 ⟨b, p, s, a, zs, cl, rfl, lz, o2, R2, g2⟩
  have z1 := b1.size
  go_wp2
  go_ret
  have B2 := below_only b1 g2 hrb
  exact ⟨a, zs, cl, rfl, lz, own_base (World.ownsRow.alloc o2 _) z1, B2.alloc B2.size _⟩
set_option maxHeartbeats 1000000 in
theorem drawSpeedFits_any (ao : Option Addr) (bs : List Int) (c : Nat) (w : World) (h : Bytes w ao bs) (hc : bs.length ≤ c) (lx : bs.length ≤ 1048576) :
    Calls Try.prog 25 #[.slice ao bs.length c] w fun e w' => ∃ (a : Option Addr) (xs : List Int) (c : Nat) (s : Int), e = .returned (.tuple #[.slice a xs.length c, .int .i64 s]) ∧ xs.length ≤ 500 ∧ 0 ≤ s ∧ s ≤ 8 ∧ OwnI w' w.heap.size a c xs ∧ Below w.heap.size w w' := by
  go_enter Try.func25, Try.ntmps25
  go_wp2_with fail
  refine (l6Open_any ao bs c w h hc (by omega)).mono ?_
  rintro e w1 ⟨rb, rfl, hrb, R1, b1⟩
  have hrl := R1.lt
  go_wp2_with fail
  refine (l91Line_any rb 0 w1 R1 (by omega)).mono ?_
  rintro e w2 ⟨b, p, s, a, zs, cl, rfl, lz, o2, R2, g2⟩
  have z1 := b1.size
  have B2 := below_only b1 g2 hrb
  go_wp2_with fail
  refine name_wp fun W hW => ?_
  have R3 : Rd W rb 40 := by rw [hW]; exact rd_alloc R2 _
  have o3 : OwnI W w1.heap.size a cl zs := by rw [hW]; exact World.ownsRow.alloc o2 _
  have B3 : Below w.heap.size w W := by rw [hW]; exact B2.alloc B2.size _
  clear hW R1 b1 o2 R2 g2 B2
  have hrW := R3.lt
  go_region_law (first
    | (go_simp
       go_at_call 34
       first
         | (refine (pick_any rb _ 7 _ (R3.below (Below.refl _ _).drew) (by omega)).mono ?_
            rintro e w5 ⟨k5, rfl, k50, k51, R5, g5⟩
            have o5 : OwnI w5 w1.heap.size a cl zs := own_only (w := W.drew) o3 g5 (fun q hq => by have := (own_in o3 _ hq).1; simp at this; omega)
            have B5 : Below w.heap.size w w5 := below_only B3.drew g5 hrb
            have HV := (show ∃ v, ∃ j : Nat, ∃ hj3 : j < 7, k5 = (j : Int) ∧ [Value.int .i64 4, Value.int .i64 4, Value.int .i64 2, Value.int .i64 1, Value.int .i64 3, Value.int .i64 0, Value.int .i64 8][j]'hj3 = .int .i64 v ∧ 0 ≤ v ∧ v ≤ 8 by
              obtain ⟨j, rfl⟩ := Int.eq_ofNat_of_zero_le k50
              rcases (by omega : j = 0 ∨ j = 1 ∨ j = 2 ∨ j = 3 ∨ j = 4 ∨ j = 5 ∨ j = 6) with rfl | rfl | rfl | rfl | rfl | rfl | rfl
              · exact ⟨4, 0, by omega, rfl, rfl, by omega, by omega⟩
              · exact ⟨4, 1, by omega, rfl, rfl, by omega, by omega⟩
              · exact ⟨2, 2, by omega, rfl, rfl, by omega, by omega⟩
              · exact ⟨1, 3, by omega, rfl, rfl, by omega, by omega⟩
              · exact ⟨3, 4, by omega, rfl, rfl, by omega, by omega⟩
              · exact ⟨0, 5, by omega, rfl, rfl, by omega, by omega⟩
              · exact ⟨8, 6, by omega, rfl, rfl, by omega, by omega⟩)
            obtain ⟨v, j, hj, rfl, hv, v0, v1⟩ := HV)
         | (refine (pick_any rb _ 7 _ (R3.below ((Below.refl _ _).drew.alloc (Nat.le_refl _) _)) (by omega)).mono ?_
            rintro e w5 ⟨k5, rfl, k50, k51, R5, g5⟩
            have o5 : OwnI w5 w1.heap.size a cl zs := own_only (w := W.drew.alloc (.cells #[.int .i64 4, .int .i64 4, .int .i64 2, .int .i64 1, .int .i64 3, .int .i64 0, .int .i64 8] 3)) (World.ownsRow.alloc o3 _) g5 (fun q hq => by have := (own_in o3 _ hq).1; simp at this; omega)
            have B5 : Below w.heap.size w w5 := below_only (B3.drew.alloc (show w.heap.size ≤ W.heap.size from B3.size) _) g5 hrb
            have rA := cells_only (ints_new W.drew [4, 4, 2, 1, 3, 0, 8] #[.int .i64 4, .int .i64 4, .int .i64 2, .int .i64 1, .int .i64 3, .int .i64 0, .int .i64 8] 3 rfl) g5 hrW
            have HV := (show ∃ v, ∃ j : Nat, k5 = (j : Int) ∧ j < 7 ∧ w5.cell? ⟨W.heap.size, j, none⟩ = some (.int .i64 v) ∧ 0 ≤ v ∧ v ≤ 8 by
              obtain ⟨j, rfl⟩ := Int.eq_ofNat_of_zero_le k50
              obtain ⟨b, off, v, hb, hv, hcv⟩ := Ints.at_ rA (k := j) (show j < 7 by omega)
              injection hb with hb
              injection hb with hb1 hb2 _
              subst hb1 hb2
              rw [Nat.zero_add] at hcv
              have hm := List.mem_of_getElem? hv
              simp at hm
              exact ⟨v, j, rfl, by omega, hcv, by omega, by omega⟩)
            obtain ⟨v, j, rfl, hj, hv, v0, v1⟩ := HV)
       have hjI : (j : Int) < 7 := by omega
       clear k51
       skip))
  all_goals
    go_wp2
    go_ret2
    first
      | exact ⟨a, zs, cl, v, rfl, lz, v0, v1, own_base o5 z1, B5⟩
      | exact ⟨a, zs, cl, v, rfl, lz, v0, v1, own_base (World.ownsRow.alloc o5 _) z1, B5.alloc B5.size _⟩
end Go.Proofs.Ythkeodpejhmkbaa
