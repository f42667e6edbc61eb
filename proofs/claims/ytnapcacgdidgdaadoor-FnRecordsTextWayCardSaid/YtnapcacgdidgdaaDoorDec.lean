/- Numbers and bytes as texts: the reference's functions. -/
import Derived.Test.YtnapcacgdidgdaaDoorText
import Derived.Test.YtnapcacgdidgdaaDoorDraw
import Derived.Laws.BytesString
import Derived.Laws.Strings2
import Derived.Laws.Concat
import Derived.Deep.RegionLaw
namespace Go.Proofs.YtnapcacgdidgdaaDoor
open Go.RowKit

theorem u8_one (W : World) (b c : Nat) (m : Int) (h : W.cell? ⟨b, 0, none⟩ = some (.int .u8 m)) :
    (convert 22 9 (.slice (some ⟨b, 0, none⟩) 1 c)).run Tryd.prog W = .ok (.string ⟨#[UInt8.ofNat m.toNat]⟩) W := by
  rw [run_convert_bytes_string W _ _ 5 _ _ _ Tryd.underlying22 Tryd.underlying5 Tryd.underlying9]
  rw [run_bytesToString W _ _ _ [m] (by
    refine run_loadCells_list W ⟨b, 0, none⟩ [.int .u8 m] fun j v hj => ?_
    match j, hj with
    | 0, hj => simp at hj; subst hj; simpa [Addr.add] using h)]
  rfl
theorem str_add {P : Program} (w : World) (x y : List UInt8) (hx : x.length ≤ 1048576) (hy : y.length ≤ 1048576) : (Op.stringOp .add ⟨x.toArray⟩ ⟨y.toArray⟩).run P w = .ok (.string ⟨(x ++ y).toArray⟩) w := by
  rw [run_string_add_sum w _ _ (by
    have h1 : (ByteArray.mk x.toArray).size = x.length := by show x.toArray.size = _; simp
    have h2 : (ByteArray.mk y.toArray).size = y.length := by show y.toArray.size = _; simp
    omega), ByteArray.mk_append_mk]

theorem below_allocB {B : Nat} {w v : World} (h : Below B w v) (hB : B ≤ w.heap.size) (o : Obj) : Below B w (v.alloc o) := h.alloc (Nat.le_trans hB h.size) o
theorem below_call {B : Nat} {w v w3 : World} (h : Below B w v) (k : Below v.heap.size v w3) (hB : B ≤ w.heap.size) : Below B w w3 := h.trans (k.mono (Nat.le_trans hB h.size))

set_option maxRecDepth 100000 in
theorem l6Dec_any (k : Nat) : ∀ (n : Nat) (w : World), n ≤ k → n ≤ 9999 →
    Calls Tryd.prog 20 #[.int .i64 n] w fun e w' => e = .returned (.string ⟨(Lib.decDigits n).toArray⟩) ∧ Below w.heap.size w w' := by
  induction k with
  | zero =>
    intro n w hk _
    obtain rfl : n = 0 := by omega
    have hcv := u8_one
    go_enter Tryd.func20, Tryd.ntmps20
    go_wp2_with fail
    go_ret
    exact ⟨by rw [Lib.decDigits_one (by decide)]; rfl, (Below.refl _ _).alloc (Nat.le_refl _) _⟩
  | succ k ih =>
    intro n w hk hn
    have hcv := u8_one
    have h0 : (0 : Int) ≤ (n : Int) := by omega
    by_cases h10 : n < 10
    · have h10' : (n : Int) < 10 := by omega
      go_enter Tryd.func20, Tryd.ntmps20
      go_wp2_with fail
      go_ret
      exact ⟨by rw [Lib.decDigits_one h10]; rfl, (Below.refl _ _).alloc (Nat.le_refl _) _⟩
    · have h10' : (10 : Int) ≤ (n : Int) := by omega
      obtain ⟨q, hq⟩ : ∃ q : Nat, q = n / 10 := ⟨_, rfl⟩
      obtain ⟨r, hr⟩ : ∃ r : Nat, r = n % 10 := ⟨_, rfl⟩
      have hqi : (n : Int).tdiv 10 = (q : Int) := by rw [hq, Int.tdiv_eq_ediv_of_nonneg h0]; omega
      have hri : (n : Int).tmod 10 = (r : Int) := by rw [hr, Int.tmod_eq_emod_of_nonneg h0]; omega
      have hw1 : IntKind.i64.wrap (48 + (r : Int)) = 48 + (r : Int) := IntWalk.i64_in _ (by omega)
      have hw2 : IntKind.u8.wrap (48 + (r : Int)) = 48 + (r : Int) := IntWalk.u8_in _ (by omega)
      have hqw : IntKind.i64.wrap (q : Int) = (q : Int) := IntWalk.i64_in _ (by omega)
      have hr9 : (r : Int) ≤ 9 := by omega
      have hD := Lib.hid (show Lib.decDigits n = Lib.decDigits q ++ [UInt8.ofNat (48 + r)] by rw [Lib.decDigits, dif_neg h10, hq, hr])
      have hl : (Lib.decDigits q).length ≤ 4 := dec_len 3 _ (by omega)
      have hadd := fun w => str_add (P := Tryd.prog) w (Lib.decDigits q) [UInt8.ofNat (48 + r)] (by omega) (by simp)
      have hadd2 := fun w => str_add (P := Tryd.prog) w (Lib.decDigits q) [UInt8.ofNat (48 + (r : Int)).toNat] (by omega) (by simp)
      have IH := Lib.hid (fun w => ih q w (by omega) (by omega))
      clear hq hr ih
      go_enter Tryd.func20, Tryd.ntmps20
      go_wp2_with fail
      go_region_law (first
        | (go_simp
           go_at_call 20
           refine (IH.out _).mono ?_
           rintro e w3 ⟨rfl, b3⟩
           first
             | (have c3 : w3.cell? ⟨w.heap.size, 0, none⟩ = some (.int .u8 (48 + (r : Int))) := (Keeps.of_below b3) _ _ _ ?hc
                case hc => (simp [go_sem]; done)
                have b4 : Below w.heap.size w w3 := below_call ?hb b3 (Nat.le_refl _)
                case hb => (repeat (first | assumption | exact Below.refl _ _ | refine Below.drew ?_ | refine below_allocB ?_ (Nat.le_refl _) _))
                skip)
             | (have b4 : Below w.heap.size w w3 := below_call ?hb b3 (Nat.le_refl _)
                case hb => (repeat (first | assumption | exact Below.refl _ _ | refine Below.drew ?_ | refine below_allocB ?_ (Nat.le_refl _) _))
                skip)))
      all_goals (
        go_wp2
        go_ret
        refine ⟨?_, ?_⟩
        · show Ending.returned (.string _) = _
          rw [hD.out]
          simp [show (48 + (r : Int)).toNat = 48 + r by omega]
        · repeat (first | assumption | exact Below.refl _ _ | refine Below.drew ?_ | refine below_allocB ?_ (Nat.le_refl _) _))

def hex16 : ByteArray := ⟨#[48, 49, 50, 51, 52, 53, 54, 55, 56, 57, 97, 98, 99, 100, 101, 102]⟩
theorem hex_piece : ∀ k : Fin 16, hex16.extract k.val (k.val + 1) = ⟨#[hexB k.val]⟩ := by decide +kernel
theorem hex_at : ∀ k : Fin 16, (hex16[k.val]'(by show k.val < 16; exact k.isLt)) = hexB k.val := by decide +kernel
set_option maxRecDepth 100000 in
theorem l42Hex_any (b : Int) (w : World) (h0 : 0 ≤ b) (h1 : b ≤ 255) :
    Calls Tryd.prog 21 #[.int .i64 b] w fun e w' => e = .returned (.string ⟨#[hexB (b / 16), hexB (b % 16)]⟩) ∧ Below w.heap.size w w' := by
  obtain ⟨q, hq⟩ : ∃ q : Nat, b / 16 = (q : Int) := Int.eq_ofNat_of_zero_le (by omega)
  obtain ⟨r, hr⟩ : ∃ r : Nat, b % 16 = (r : Int) := Int.eq_ofNat_of_zero_le (by omega)
  have hq1 : b.tdiv 16 = (q : Int) := by rw [Int.tdiv_eq_ediv_of_nonneg h0]; exact hq
  have hr1 : b.tmod 16 = (r : Int) := by rw [Int.tmod_eq_emod_of_nonneg h0]; exact hr
  have hqw : IntKind.i64.wrap (q : Int) = (q : Int) := IntWalk.i64_in _ (by omega)
  have hqw1 : IntKind.i64.wrap ((q : Int) + 1) = (q : Int) + 1 := IntWalk.i64_in _ (by omega)
  have hrw1 : IntKind.i64.wrap ((r : Int) + 1) = (r : Int) + 1 := IntWalk.i64_in _ (by omega)
  have hsl : ∀ (k : Nat) (W : World), k < 16 → (Instr.slice 9 (.string hex16) (some (.int .i64 k)) (some (.int .i64 ((k : Int) + 1))) none).run Tryd.prog W = .ok (.string ⟨#[hexB k]⟩) W := fun k W hk => by
    have e := run_slice_string (P := Tryd.prog) W 9 hex16 .i64 .i64 k ((k : Int) + 1) Tryd.underlying9 (by omega) (by omega) (by show _ ≤ (16 : Int); omega)
    rw [e]
    have := hex_piece ⟨k, hk⟩
    simpa using this
  have hs1 := fun W => hsl q W (by omega)
  have hs2 := fun W => hsl r W (by omega)
  have hadd := fun w => str_add (P := Tryd.prog) w [hexB q] [hexB r] (by simp) (by simp)
  unfold hex16 at hs1 hs2
  rw [hq, hr]
  clear hsl
  go_enter Tryd.func21, Tryd.ntmps21
  go_wp2
  go_quiet (fail)
  go_wp2
  go_ret
  exact ⟨rfl, below_drewN (Below.refl _ _) _⟩
end Go.Proofs.YtnapcacgdidgdaaDoor
