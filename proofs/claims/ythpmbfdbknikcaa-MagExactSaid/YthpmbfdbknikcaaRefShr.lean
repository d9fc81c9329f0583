/- The references' shifts down, what is cut off, and powers: contracts. -/
import Derived.Test.YthpmbfdbknikcaaRefShl
set_option linter.unusedVariables false
set_option linter.unusedSimpArgs false
namespace Go.Proofs.Ythpmbfdbknikcaa
open Go.RowKit

theorem digit_z {v : Value} {A : Nat} {z : Int} (i : Nat) (hz : z = i) (w : World) (h : IsN w v A) (hl : lenN A ≤ 65536) (hi : i ≤ 1000000) :
    Calls Try.prog 58 #[v, .int .i64 z] w fun e w' => e = .returned (.int .u32 (dig i A : Nat)) ∧ w' = w := by
  subst hz; exact (digit_any i w h hl hi).mono fun _ _ h => ⟨h.1, h.2.symm⟩
theorem or_shr {a b : Nat} (ha : a < 2 ^ 32) (hb : b < 2 ^ 32) : bits .or .u64 (a : Int) ((b : Int) * 4294967296) = ((a + b * 2 ^ 32 : Nat) : Int) ∧ IntKind.u64.wrap ((b : Int) * 4294967296) = (b : Int) * 4294967296 := by
  have e : ((b : Int) * 4294967296) = ((b * 2 ^ 32 : Nat) : Int) := by omega
  refine ⟨?_, by rw [wrap_u64 (by omega) (by omega)]⟩
  rw [e, or_u64 ⟨by omega, by omega⟩ ⟨by omega, by omega⟩, Int.toNat_natCast, Int.toNat_natCast, shr_or a b ha]
set_option maxRecDepth 100000 in
set_option maxHeartbeats 4000000 in
theorem refShr_any {v : Value} {A : Nat} {z : Int} (n : Nat) (hz : z = n) (hn : n ≤ 65536) (w : World) (h : IsN w v A) (hl : lenN A ≤ 4096) :
    Calls Try.prog 23 #[v, .int .i64 z] w fun e w' => ∃ u, e = .returned u ∧ IsN w' u (A / 2 ^ n) ∧ Below w.heap.size w w' := by
  obtain ⟨q, s, hs, rfl⟩ : ∃ q s : Nat, s < 32 ∧ n = 32 * q + s := ⟨n / 32, n % 32, by omega, by omega⟩
  have e1 : z / 32 = q := by omega
  have e2 : z % 32 = s := by omega
  have z0 : 0 ≤ z := by omega
  have z1 : z ≤ 65536 := by omega
  have hq : q ≤ 4096 := by omega
  have E1 := Lib.hid e1
  clear hz hn
  have h' := h
  obtain ⟨ad, c0, rfl, hc0, hr⟩ := h.open
  have HX := Lib.hid h'
  clear hr h h' hc0
  have s1 : (s : Int) < 32 := by omega
  have s0 : (0 : Int) ≤ s := by omega
  go_enter Try.func23, Try.ntmps23
  go_wp2
  go_loopw [5, 6] (fun v i wr => ∃ (j : Nat) (x : Int), j ≤ lenN A - q ∧ i = .int .i64 x ∧ x = ((q + j : Nat) : Int) ∧ OwnN w.heap.size wr v (digsTo (A / 2 ^ (32 * q + s)) j) ∧ Below w.heap.size w wr) (fun _ i _ => lenN A - (intOf i).toNat)
  case atStart => exact ⟨0, _, by omega, rfl, by omega, OwnN.nil _ _, Below.refl _ _⟩
  case round =>
    clear e1
    obtain ⟨j, x, hj, rfl, hx, hown, hbel⟩ := hrel
    have HXE := Lib.hid hx
    have x0 : 0 ≤ x := by omega
    have x9 : x ≤ 10000 := by omega
    have HO := Lib.hid hown
    have HB := Lib.hid hbel
    by_cases h1 : x < lenN A
    · have hj1 : q + j < lenN A := by omega
      obtain ⟨ad', c0', ex, _, hrx⟩ := (HX.out.call HB.out).open
      cases ex
      obtain ⟨bx, ox, rfl, _, hcx⟩ := hrx (by omega)
      have ca := hcx (q + j) hj1
      obtain ⟨xn, hxn⟩ : ∃ xn : Nat, x = xn := ⟨q + j, hx⟩
      subst hxn
      obtain rfl : xn = q + j := by omega
      clear hcx hrx hx hown hbel
      have d0 := dig_lt (q + j) A
      have d1 := dig_lt (q + j + 1) A
      obtain ⟨eo, ew⟩ := or_shr d0 d1
      obtain ⟨X, hX⟩ : ∃ X, dig (q + j) A + dig (q + j + 1) A * 2 ^ 32 = X := ⟨_, rfl⟩
      rw [hX] at eo
      have hX64 : (X : Int) < 18446744073709551616 := by omega
      obtain ⟨Y, hY⟩ : ∃ Y : Nat, X / 2 ^ s = Y := ⟨_, rfl⟩
      have es : ((X : Int) / 2 ^ s) = (Y : Int) := by rw [← hY, Int.natCast_ediv, Int.natCast_pow]; rfl
      have hYX : Y ≤ X := by rw [← hY]; exact Nat.div_le_self _ _
      have hY64 : (Y : Int) < 18446744073709551616 := by omega
      have HS := Lib.hid (show Y % 2 ^ 32 = dig j (A / 2 ^ (32 * q + s)) by rw [← hY, ← hX]; exact shr_dig A q s j hs)
      have ew1 : IntKind.i64.wrap (((q + j : Nat) : Int) + 1) = ((q + j : Nat) : Int) + 1 := IntWalk.i64_in _ (by omega)
      have wd0 : IntKind.u64.wrap ((dig (q + j) A : Nat) : Int) = ((dig (q + j) A : Nat) : Int) := wrap_u64 (by omega) (by omega)
      have wd1 : IntKind.u64.wrap ((dig (q + j + 1) A : Nat) : Int) = ((dig (q + j + 1) A : Nat) : Int) := wrap_u64 (by omega) (by omega)
      clear hX hY hYX hX64 hY64 d0 d1
      generalize dig (q + j) A = D0 at *
      go_wp2
      go_quiet ((go_at_call 58; exact Calls.quiet_of_same (digit_z (q + j + 1) (by omega) _ (HX.out.call (by repeat (first | exact HB.out | refine below_drewN ?_ _ | refine Below.drew ?_))) (by omega) (by omega))))
      go_wp2_with (at_builtin; refine app_one rfl (.tmp 28) (.tmp 34) rfl w.heap.size (by rfl) ((HO.out.call (below_drewN (Below.refl _ _) _)).alloc _) wr.heap.size (Y % 2 ^ 32) (by rfl) (Nat.mod_lt _ (by decide)) (cell_new1 (int_u32 (by omega))) (by rw [digsTo_length]; omega) (by have := HB.out.size; simp; omega) ?_; intro v' w' hown' hb'; have HO' := Lib.hid hown'; have HB' := Lib.hid hb'; clear hown' hb')
      go_roundw
      case rel => exact ⟨j + 1, _, by omega, rfl, by omega, by rw [digsTo_succ, ← HS.out]; exact HO'.out, ((below_drewN HB.out _).alloc (HB.out.size) _).trans HB'.out⟩
      case measure => simp [intOf]; omega
    · have HS := Lib.hid (show valL (digsTo (A / 2 ^ (32 * q + s)) j) = A / 2 ^ (32 * q + s) by
        rw [valL_digsTo]; exact Nat.mod_eq_of_lt (shr_all (by omega)))
      go_wp2_with fail
      refine (Trim_any _ HO.out.reads (by rw [digsTo_length]; omega)).mono ?_
      rintro e w' ⟨v2, rfl, hN, rfl⟩
      go_wp2
      go_ret
      exact ⟨v2, rfl, by rw [HS.out] at hN; exact hN, HB.out⟩
theorem lenN_div {A n : Nat} : lenN (A / 2 ^ n) ≤ lenN A := lenN_mono (Nat.div_le_self _ _)
theorem lenN_mul_pow {A n : Nat} : lenN (A * 2 ^ n) ≤ lenN A + n / 32 + 1 := by
  apply lenN_le
  have h := lt_lenN A
  have h2 := Nat.two_pow_pos n
  have h3 : A * 2 ^ n < 2 ^ (32 * lenN A) * 2 ^ n := Nat.mul_lt_mul_of_pos_right h h2
  rw [← Nat.pow_add] at h3
  exact Nat.lt_of_lt_of_le h3 (Nat.pow_le_pow_right (by omega) (by omega))
set_option maxRecDepth 100000 in
set_option maxHeartbeats 4000000 in
theorem refCut_any {v : Value} {A : Nat} {z : Int} (n : Nat) (hz : z = n) (hn : n ≤ 65536) (w : World) (h : IsN w v A) (hl : lenN A ≤ 1024) :
    Calls Try.prog 83 #[v, .int .i64 z] w fun e w' => ∃ u, e = .returned u ∧ IsN w' u (A % 2 ^ n) ∧ Below w.heap.size w w' := by
  have HZ := Lib.hid hz
  have HI := Lib.hid h
  have HN := Lib.hid hn
  clear hz h hn
  have h1 := lenN_div (A := A) (n := n)
  have h2 := lenN_mul_pow (A := A / 2 ^ n) (n := n)
  have HC := Lib.hid (cut_eq A n)
  have HLE := Lib.hid (Nat.div_mul_le_self A (2 ^ n))
  go_enter Try.func83, Try.ntmps83
  go_wp2_with fail
  refine (refShr_any n HZ.out HN.out _ HI.out (by omega)).mono ?_
  rintro e w1 ⟨v1, rfl, hN1, hb1⟩
  have HN1 := Lib.hid hN1
  have HB1 := Lib.hid hb1
  clear hN1 hb1
  go_wp2_with fail
  refine (refShl_any n HZ.out HN.out _ HN1.out (by omega)).mono ?_
  rintro e w2 ⟨v2, rfl, hN2, hb2⟩
  have HN2 := Lib.hid hN2
  have HB2 := Lib.hid (HB1.out.trans (hb2.mono HB1.out.size))
  clear hN2 hb2
  go_wp2_with fail
  refine (refSub_any _ (HI.out.call HB2.out) HN2.out (by omega) (by have := HN.out; omega) HLE.out).mono ?_
  rintro e w3 ⟨v3, rfl, hN3, hb3⟩
  have HN3 := Lib.hid hN3
  have HB3 := Lib.hid (HB2.out.trans (hb3.mono HB2.out.size))
  clear hN3 hb3
  go_wp2
  refine bodyPost_ret (v := v3) (by simp [results, Try.results83, go_sem]) rfl ⟨v3, rfl, by have := HN3.out; rw [HC.out] at this; exact this, HB3.out⟩
set_option maxRecDepth 100000 in
set_option maxHeartbeats 4000000 in
theorem refFull_any {z : Int} (n : Nat) (hz : z = n) (hn : n ≤ 65536) (w : World) :
    Calls Try.prog 29 #[.int .i64 z] w fun e w' => ∃ u, e = .returned u ∧ IsN w' u (2 ^ n) ∧ Below w.heap.size w w' := by
  have HZ := Lib.hid hz
  have HN := Lib.hid hn
  clear hz hn
  have hl : lenN 1 ≤ 1 := lenN_le 1 1 (by decide)
  have HE := Lib.hid (Nat.one_mul (2 ^ n))
  go_enter Try.func29, Try.ntmps29
  go_wp2_with fail
  refine (refOf_any 1 (by decide) _).mono ?_
  rintro e w1 ⟨v1, rfl, hN1, hb1⟩
  have HN1 := Lib.hid hN1
  have HB1 := Lib.hid hb1
  clear hN1 hb1
  go_wp2_with fail
  refine (refShl_any n HZ.out HN.out _ HN1.out (by omega)).mono ?_
  rintro e w2 ⟨v2, rfl, hN2, hb2⟩
  have HN2 := Lib.hid hN2
  have HB2 := Lib.hid (HB1.out.trans (hb2.mono HB1.out.size))
  clear hN2 hb2
  go_wp2
  refine bodyPost_ret (v := v2) (by simp [results, Try.results29, go_sem]) rfl ⟨v2, rfl, by have := HN2.out; rw [HE.out] at this; exact this, HB2.out⟩
end Go.Proofs.Ythpmbfdbknikcaa
