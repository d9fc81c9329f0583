/- The references' shifts: contracts. -/
import Derived.Test.YthpmbfdbknikcaaRefSub
import Derived.Test.YthpmbfdbknikcaaRefCmp
set_option linter.unusedVariables false
set_option linter.unusedSimpArgs false
namespace Go.Proofs.Ythpmbfdbknikcaa
open Go.RowKit

theorem or_shl {d s c : Nat} (hd : d < 2 ^ 32) (hs : s < 32) (hc : c < 2 ^ s) : bits .or .u64 (c : Int) (IntKind.u64.wrap ((d : Int) * 2 ^ s)) = ((d * 2 ^ s + c : Nat) : Int) := by
  obtain ⟨h1, h2⟩ := shl_carry hd hs hc
  have e : ((d : Int) * 2 ^ s) = ((d * 2 ^ s : Nat) : Int) := by rw [Int.natCast_mul, Int.natCast_pow]; rfl
  have hc2 : c < 2 ^ 64 := Nat.lt_of_lt_of_le hc (Nat.pow_le_pow_right (by omega) (by omega))
  rw [e, wrap_u64 (by omega) (by omega), or_u64 ⟨by omega, by omega⟩ ⟨by omega, by omega⟩, Int.toNat_natCast, Int.toNat_natCast, shl_or hc]
set_option maxRecDepth 100000 in
set_option maxHeartbeats 4000000 in
theorem refShl_any {v : Value} {A : Nat} {z : Int} (n : Nat) (hz : z = n) (hn : n ≤ 65536) (w : World) (h : IsN w v A) (hl : lenN A ≤ 4096) :
    Calls Try.prog 15 #[v, .int .i64 z] w fun e w' => ∃ u, e = .returned u ∧ IsN w' u (A * 2 ^ n) ∧ Below w.heap.size w w' := by
  obtain ⟨q, s, hs, rfl⟩ : ∃ q s : Nat, s < 32 ∧ n = 32 * q + s := ⟨n / 32, n % 32, by omega, by omega⟩
  have e1 : z / 32 = q := by omega
  have e2 : z % 32 = s := by omega
  have z0 : 0 ≤ z := by omega
  have z1 : z ≤ 65536 := by omega
  have hq : q ≤ 4096 := by omega
  clear hz hn
  have h' := h
  obtain ⟨ad, c0, rfl, hc0, hr⟩ := h.open
  have HX := Lib.hid h'
  clear hr h h' hc0
  have s1 : (s : Int) < 32 := by omega
  have s0 : (0 : Int) ≤ s := by omega
  go_enter Try.func15, Try.ntmps15
  go_wp2_with (at_make; refine make_any rfl (.tmp 9) (.tmp 9) rfl w.heap.size q e1 (by rfl) (by rfl) (by omega) (Nat.le_refl _) ?_; intro w1 hown hbel)
  go_loopw [5, 6, 7] (fun v c i wr => ∃ (k : Nat) (l : List Nat) (cc : Nat), k ≤ lenN A ∧ i = .int .i64 k ∧ c = .int .u64 cc ∧ cc < 2 ^ s ∧ OwnN w.heap.size wr v l ∧ l.length = q + k ∧ Hid (valL l + cc * 2 ^ (32 * (q + k)) = A % 2 ^ (32 * k) * 2 ^ (32 * q + s)) ∧ Below w.heap.size w wr) (fun _ _ i _ => lenN A - (intOf i).toNat)
  case atStart => exact ⟨0, _, 0, by omega, rfl, rfl, Nat.two_pow_pos _, hown, by simp, Lib.hid (by simp [valL_zeros, Nat.mod_one]), hbel⟩
  case round =>
    clear hown hbel
    obtain ⟨k, l, cc, hk, rfl, rfl, hcc, hown, hlen, HV, hbel⟩ := hrel
    have d0 := dig_lt k A
    have HO := Lib.hid hown
    have HB := Lib.hid hbel
    have HL := Lib.hid hlen
    clear hown hbel hlen
    by_cases h1 : k < lenN A
    · obtain ⟨ad', c0', ex, _, hrx⟩ := (HX.out.call HB.out).open
      cases ex
      obtain ⟨bx, ox, rfl, _, hcx⟩ := hrx (by omega)
      have ca := hcx k h1
      clear hcx hrx
      obtain ⟨X, hX⟩ : ∃ X, dig k A * 2 ^ s + cc = X := ⟨_, rfl⟩
      obtain ⟨x1, x2⟩ := shl_carry d0 hs hcc
      have eo := or_shl d0 hs hcc
      rw [hX] at eo x1 x2
      have HX2 := Lib.hid hX
      have HX3 := Lib.hid x2
      have hcc' := Lib.hid hcc
      have x3 : (X : Int) < 9223372036854775808 := by omega
      clear hX x2 x1 hcc
      go_wp2_with (at_builtin; refine app_one rfl (.tmp 27) (.tmp 30) rfl w.heap.size (by rfl) (HO.out.alloc _) wr.heap.size (X % 2 ^ 32) (by rfl) (Nat.mod_lt _ (by decide)) (cell_new1 (int_u32 (by omega))) (by have := HL.out; omega) (by have := HB.out.size; simp; omega) ?_; intro v' w' hown' hb'; have HO' := Lib.hid hown'; have HB' := Lib.hid hb'; clear hown' hb')
      go_roundw
      case rel => exact ⟨k + 1, l ++ [X % 2 ^ 32], X / 2 ^ 32, by omega, by go_num, int_u64 (by omega), HX3.out, HO'.out, by simp [HL.out]; omega, Lib.hid (by rw [valL_snoc, HL.out, ← HX2.out]; exact shl_step HV.out), (HB.out.alloc (HB.out.size) _).trans HB'.out⟩
      case measure => simp [intOf]; omega
    · have hkA : lenN A ≤ k := by omega
      have hcc2 : cc < 2 ^ 31 := Nat.lt_of_lt_of_le hcc (Nat.pow_le_pow_right (by omega) (by omega))
      have HS := Lib.hid (show valL (l ++ [cc]) = A * 2 ^ (32 * q + s) by rw [valL_snoc, HL.out, HV.out, mod_len hkA])
      have hcc3 : (cc : Int) < 2147483648 := by omega
      clear hcc hcc2
      go_wp2_with (at_builtin; refine app_one rfl (.tmp 34) (.tmp 37) rfl w.heap.size (by rfl) (HO.out.alloc _) wr.heap.size cc (by rfl) (by omega) (cell_new1 (int_u32 (by omega))) (by have := HL.out; omega) (by have := HB.out.size; simp; omega) ?_; intro v' w' hown' hb'; have HO' := Lib.hid hown'; have HB' := Lib.hid hb'; clear hown' hb')
      refine (Trim_any _ HO'.out.reads (by simp [HL.out]; omega)).mono ?_
      rintro e w' ⟨v2, rfl, hN, rfl⟩
      go_wp2
      go_ret
      exact ⟨v2, rfl, by rw [HS.out] at hN; exact hN, (HB.out.alloc (HB.out.size) _).trans HB'.out⟩
end Go.Proofs.Ythpmbfdbknikcaa
