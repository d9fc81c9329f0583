/- The references' number of bits, and a bit: contracts. -/
import Derived.Test.YthpmbfdbknikcaaRefAdd
set_option linter.unusedVariables false
set_option linter.unusedSimpArgs false
namespace Go.Proofs.Ythpmbfdbknikcaa
open Go.RowKit

set_option maxRecDepth 100000 in
set_option maxHeartbeats 4000000 in
theorem refLen_any {v : Value} {A : Nat} (w : World) (h : IsN w v A) (hl : lenN A ≤ 65536) :
    Calls Try.prog 65 #[v] w fun e w' => e = .returned (.int .i64 (lenB A : Nat)) ∧ w = w' := by
  obtain ⟨ad, c, rfl, hc, hr⟩ := h.open
  by_cases h0 : A = 0
  · subst h0
    have e : lenN 0 = 0 := lenN_zero
    rw [e, lenB_zero]
    clear e hr h hl hc
    go_enter Try.func65, Try.ntmps65
    go_wp2
    go_ret
    exact ⟨rfl, rfl⟩
  · have hpos : 0 < lenN A := Nat.pos_of_ne_zero fun e => h0 (lenN_eq_zero.1 e)
    obtain ⟨b, o, rfl, hb, hcell⟩ := hr hpos
    have ck := hcell (lenN A - 1) (by omega)
    obtain ⟨n, hn⟩ : ∃ n, lenN A = n + 1 := ⟨lenN A - 1, by omega⟩
    have HN := Lib.hid hn
    have hd := dig_lt (lenN A - 1) A
    obtain ⟨_, hd0⟩ := top_dig h0
    have HT := fun j => lenB_top (A := A) (j := j) h0
    rw [hn] at hl hc ck hd hd0 HT ⊢
    simp only [Nat.add_sub_cancel] at ck hd hd0 HT
    have HTH := Lib.hid HT
    generalize dig n A = d at *
    clear hr hcell hn HT h hpos
    go_enter Try.func65, Try.ntmps65
    go_wp2
    go_loop [3, 4] (fun z t => ∃ (j : Nat) (x : Int) (y : Nat), j ≤ 31 ∧ z = .int .i64 x ∧ x = 32 * (n + 1) - j ∧ t = .int .u32 y ∧ Hid (y = d * 2 ^ j) ∧ 0 < y ∧ y < 2 ^ 32) (fun _ t => 4294967296 - (intOf t).toNat)
    case atStart => exact ⟨0, _, d, by omega, rfl, by omega, rfl, Lib.hid (by simp), hd0, by omega⟩
    case round =>
      obtain ⟨j, x, y, hj, rfl, hx, rfl, HY, hy0, hy1⟩ := hrel
      have HX := Lib.hid hx
      have x0 : 0 ≤ x := by omega
      have x1 : x ≤ 3000000 := by omega
      clear hx
      have y1 : (y : Int) < 4294967296 := by omega
      have y0 : (0 : Int) < y := by omega
      have HY1 := Lib.hid hy1
      clear hy1
      by_cases hlt : (y : Int) < 2147483648
      · have hj31 : j < 31 := by
          rcases Nat.lt_or_ge j 31 with g | g
          · exact g
          · have : j = 31 := by omega
            subst this
            have := HY.out
            omega
        have hx1 : 1 ≤ x := by have := HX.out; omega
        go_wp2
        go_round
        case rel => exact ⟨j + 1, _, y * 2, by omega, rfl, by have := HX.out; omega, by first | rfl | (congr 1; omega) | go_num, Lib.hid (by rw [HY.out, Nat.pow_succ, Nat.mul_assoc]), by omega, by omega⟩
        case measure => simp [intOf]; omega
      · have HR := Lib.hid (show x = (lenB A : Nat) by
          have e1 := HY.out
          have e2 := HTH.out j (by omega) (by rw [← e1]; omega) (by rw [← e1]; omega)
          have e3 := HX.out
          rw [e2]; omega)
        go_wp2
        go_ret
        exact ⟨ret_int HR.out, rfl⟩
theorem bit_u32 {d : Nat} (hd : d < 2 ^ 32) (k : Nat) : (bits .and .u32 ((d : Int) / 2 ^ k) 1 == 1) = d.testBit k := by
  have e : (d : Int) / 2 ^ k = ((d / 2 ^ k : Nat) : Int) := by rw [Int.natCast_ediv, Int.natCast_pow]; rfl
  have hle : d / 2 ^ k ≤ d := Nat.div_le_self _ _
  rw [e]
  generalize hq : d / 2 ^ k = q at *
  have ha : q < 2 ^ 32 := by omega
  have e1 : (BitVec.ofNat 32 q &&& BitVec.ofNat 32 1).toNat = q % 2 := by
    rw [BitVec.toNat_and, BitVec.toNat_ofNat, BitVec.toNat_ofNat, Nat.mod_eq_of_lt ha, Nat.mod_eq_of_lt (by omega), Nat.and_one_is_mod]
  have e2 : bits .and .u32 (q : Int) 1 = ((q % 2 : Nat) : Int) := by
    show IntKind.u32.wrap ((BitVec.ofInt 32 ((q : Nat) : Int) &&& BitVec.ofInt 32 ((1 : Nat) : Int)).toNat : Nat) = _
    rw [BitVec.ofInt_natCast, BitVec.ofInt_natCast, e1]
    unfold IntKind.wrap
    simp [IntKind.signed, IntKind.bits]; omega
  rw [e2, Nat.testBit_eq_decide_div_mod_eq, hq, Bool.eq_iff_iff, beq_iff_eq, decide_eq_true_iff]
  omega
theorem dig_bit (i A k : Nat) (hk : k < 32) : (dig i A).testBit k = A.testBit (32 * i + k) := by
  unfold dig; rw [Nat.testBit_mod_two_pow, Nat.testBit_div_two_pow, decide_eq_true hk, Bool.true_and]; congr 1; omega
set_option maxRecDepth 100000 in
set_option maxHeartbeats 4000000 in
theorem refBit_any {v : Value} {A : Nat} (z : Int) (hz : z ≤ 1000000) (w : World) (h : IsN w v A) (hl : lenN A ≤ 65536) :
    Calls Try.prog 38 #[v, .int .i64 z] w fun e w' => e = .returned (.bool (bitZ A z)) ∧ w = w' := by
  by_cases h0 : 0 ≤ z
  · obtain ⟨q, s, hs, rfl⟩ : ∃ q s : Nat, s < 32 ∧ z = ((32 * q + s : Nat) : Int) := ⟨(z / 32).toNat, (z % 32).toNat, by omega, by omega⟩
    have HR := Lib.hid (show (bits .and .u32 ((dig q A : Int) / 2 ^ s) 1 == 1) = bitZ A ((32 * q + s : Nat) : Int) by
      rw [bit_u32 (dig_lt q A), dig_bit q A s hs]
      unfold bitZ
      rw [decide_eq_true h0, Bool.true_and, Int.toNat_natCast])
    have e1 : ((32 * q + s : Nat) : Int) / 32 = q := by omega
    have e2 : ((32 * q + s : Nat) : Int) % 32 = s := by omega
    generalize ((32 * q + s : Nat) : Int) = z at *
    have hd := dig_lt q A
    have s1 : (s : Int) < 32 := by omega
    have s0 : (0 : Int) ≤ s := by omega
    have hq : q ≤ 1000000 := by omega
    go_enter Try.func38, Try.ntmps38
    go_wp2_with fail
    refine (digit_any q _ h hl hq).mono ?_
    rintro e w' ⟨rfl, rfl⟩
    go_wp2
    go_ret
    exact ⟨ret_bool HR.out, rfl⟩
  · have e : bitZ A z = false := by unfold bitZ; rw [decide_eq_false h0]; rfl
    rw [e]
    clear e h
    go_enter Try.func38, Try.ntmps38
    go_wp2
    go_ret
    exact ⟨rfl, rfl⟩
end Go.Proofs.Ythpmbfdbknikcaa
