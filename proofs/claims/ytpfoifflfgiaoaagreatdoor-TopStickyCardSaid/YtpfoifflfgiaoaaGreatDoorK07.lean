/- Len64 and numbers of digits; roots, in plain numbers. -/
import Derived.Test.YtpfoifflfgiaoaaGreatDoorK01
import Derived.Deep.Cut
import Derived.Test.YtpfoifflfgiaoaaGreatDoorK04
import Derived.Test.YtpfoifflfgiaoaaGreatDoorK02
import Derived.RangeFuncNested
import Derived.RangeFuncBound
import Derived.RangeFuncCalls
import Derived.RangeFuncLeaves
import Derived.Shelf.Abstract
import Derived.Shelf.RegionOpen
import Derived.WalkKit
import Derived.OwnWalkIn
import Derived.TacticsInMore
import Derived.LoopNIn
import Derived.LoopIn
import Derived.Lib.Hide
import Derived.Test.YtpfoifflfgiaoaaGreatDoorK05
set_option linter.unusedVariables false
set_option linter.unusedSimpArgs false
namespace Go.Proofs.YtpfoifflfgiaoaaGreatDoor

/-- the first k digits -/
def digsTo (A k : Nat) : List Nat := (List.range k).map (fun i => dig i A)
theorem digsTo_length (A k : Nat) : (digsTo A k).length = k := by simp [digsTo]
theorem digsTo_succ (A k : Nat) : digsTo A (k + 1) = digsTo A k ++ [dig k A] := by simp [digsTo, List.range_succ]
theorem valL_digsTo (A : Nat) : ∀ k, valL (digsTo A k) = A % 2 ^ (32 * k)
  | 0 => by simp [digsTo, valL, Nat.mod_one]
  | k + 1 => by rw [digsTo_succ, valL_snoc, valL_digsTo A k, digsTo_length, mod_dig]

/-! order -/
/-! a digit laid anew -/
theorem DigL.set {l : List Nat} {j d : Nat} (h : DigL l) (hd : d < 2 ^ 32) : DigL (l.set j d) := fun x hx => by
  rcases List.mem_or_eq_of_mem_set hx with h1 | h1
  · exact h x h1
  · rw [h1]; exact hd
theorem DigL.at {l : List Nat} {j e : Nat} (h : DigL l) (hj : l[j]? = some e) : e < 2 ^ 32 := h e (List.mem_of_getElem? hj)
theorem valL_zeros (n : Nat) : valL (List.replicate n 0) = 0 := by
  induction n with
  | zero => rfl
  | succ n ih => rw [List.replicate_succ, valL, ih]
theorem DigL.zeros (n : Nat) : DigL (List.replicate n 0) := fun x hx => by rw [List.eq_of_mem_replicate hx]; omega

/-! products -/
/-! how many bits -/
def lenB (A : Nat) : Nat := if A = 0 then 0 else Nat.log2 A + 1
theorem lenB_eq {A n : Nat} (h0 : 2 ^ n ≤ A) (h1 : A < 2 ^ (n + 1)) : lenB A = n + 1 := by
  have hp := Nat.two_pow_pos n
  unfold lenB
  rw [if_neg (by omega), (Nat.log2_eq_iff (by omega)).2 ⟨h0, h1⟩]
theorem lenB_zero : lenB 0 = 0 := rfl
theorem lenB_spec {A : Nat} (h : A ≠ 0) : 0 < lenB A ∧ 2 ^ (lenB A - 1) ≤ A ∧ A < 2 ^ lenB A := by
  unfold lenB
  rw [if_neg h, Nat.add_sub_cancel]
  exact ⟨by omega, (Nat.log2_eq_iff h).1 rfl⟩
theorem lt_lenB (A : Nat) : A < 2 ^ lenB A := by
  by_cases h : A = 0
  · subst h; simp [lenB_zero]
  · exact (lenB_spec h).2.2
theorem lenB_le {A n : Nat} (h : A < 2 ^ n) : lenB A ≤ n := by
  by_cases h0 : A = 0
  · subst h0; rw [lenB_zero]; omega
  · obtain ⟨a, b, _⟩ := lenB_spec h0
    rcases Nat.lt_or_ge n (lenB A) with g | g
    · have := Nat.pow_le_pow_right (n := 2) (by omega) (show n ≤ lenB A - 1 by omega); omega
    · exact g
/-- the top digit -/
theorem top_dig {A : Nat} (h : A ≠ 0) : dig (lenN A - 1) A = A / 2 ^ (32 * (lenN A - 1)) ∧ 0 < dig (lenN A - 1) A := by
  have hl : 0 < lenN A := by
    rcases Nat.eq_zero_or_pos (lenN A) with g | g
    · exact absurd (lenN_eq_zero.1 g) h
    · exact g
  have h1 := lt_lenN A
  have e : 32 * lenN A = 32 * (lenN A - 1) + 32 := by omega
  have h2 : A / 2 ^ (32 * (lenN A - 1)) < 2 ^ 32 := by
    rw [Nat.div_lt_iff_lt_mul (Nat.two_pow_pos _), ← Nat.pow_add, Nat.add_comm 32, ← e]; exact h1
  have h3 : dig (lenN A - 1) A = A / 2 ^ (32 * (lenN A - 1)) := by unfold dig; exact Nat.mod_eq_of_lt h2
  refine ⟨h3, ?_⟩
  rw [h3]
  rcases Nat.eq_zero_or_pos (A / 2 ^ (32 * (lenN A - 1))) with g | g
  · have h4 : A < 2 ^ (32 * (lenN A - 1)) := (Nat.div_eq_zero_iff_lt (Nat.two_pow_pos _)).1 g
    have := lenN_le _ _ h4; omega
  · exact g
theorem lenB_top {A j : Nat} (h : A ≠ 0) (hj : j < 32) (h0 : 2 ^ 31 ≤ dig (lenN A - 1) A * 2 ^ j) (h1 : dig (lenN A - 1) A * 2 ^ j < 2 ^ 32) : lenB A = 32 * lenN A - j := by
  obtain ⟨e, hpos⟩ := top_dig h
  have hl : 0 < lenN A := by
    rcases Nat.eq_zero_or_pos (lenN A) with g | g
    · exact absurd (lenN_eq_zero.1 g) h
    · exact g
  have a1 : 2 ^ (31 - j) ≤ dig (lenN A - 1) A := by
    have e1 : (2 : Nat) ^ 31 = 2 ^ (31 - j) * 2 ^ j := by rw [← Nat.pow_add]; congr 1; omega
    rw [e1] at h0
    exact Nat.le_of_mul_le_mul_right h0 (Nat.two_pow_pos j)
  have a2 : dig (lenN A - 1) A < 2 ^ (32 - j) := by
    have e1 : (2 : Nat) ^ 32 = 2 ^ (32 - j) * 2 ^ j := by rw [← Nat.pow_add]; congr 1; omega
    rw [e1] at h1
    exact Nat.lt_of_mul_lt_mul_right h1
  rw [e] at a1 a2
  rw [Nat.le_div_iff_mul_le (Nat.two_pow_pos _), ← Nat.pow_add] at a1
  rw [Nat.div_lt_iff_lt_mul (Nat.two_pow_pos _), ← Nat.pow_add] at a2
  have := lenB_eq (A := A) (n := 31 - j + 32 * (lenN A - 1)) a1 (by rw [show 31 - j + 32 * (lenN A - 1) + 1 = 32 - j + 32 * (lenN A - 1) by omega]; exact a2)
  omega

/-! shifts -/
theorem shl_step {A q s i V c : Nat} (h : V + c * 2 ^ (32 * (q + i)) = A % 2 ^ (32 * i) * 2 ^ (32 * q + s)) :
    V + (dig i A * 2 ^ s + c) % 2 ^ 32 * 2 ^ (32 * (q + i)) + (dig i A * 2 ^ s + c) / 2 ^ 32 * 2 ^ (32 * (q + (i + 1))) = A % 2 ^ (32 * (i + 1)) * 2 ^ (32 * q + s) := by
  rw [mod_dig A i, Nat.add_mul, ← h, show 32 * (q + (i + 1)) = 32 * (q + i) + 32 by omega, Nat.pow_add 2 (32 * (q + i)) 32]
  have ed := Nat.div_add_mod (dig i A * 2 ^ s + c) (2 ^ 32)
  have e1 : dig i A * 2 ^ (32 * i) * 2 ^ (32 * q + s) = dig i A * 2 ^ s * 2 ^ (32 * (q + i)) := by
    rw [Nat.mul_assoc, Nat.mul_assoc, ← Nat.pow_add, ← Nat.pow_add]; congr 2; omega
  rw [e1]
  generalize (dig i A * 2 ^ s + c) / 2 ^ 32 = u at *
  generalize (dig i A * 2 ^ s + c) % 2 ^ 32 = r at *
  generalize dig i A * 2 ^ s = t at *
  generalize 2 ^ (32 * (q + i)) = p at *
  have e2 : (2 ^ 32 * u + r) * p = (t + c) * p := by rw [ed]
  rw [Nat.add_mul, Nat.add_mul, Nat.mul_comm (2 ^ 32) u, Nat.mul_assoc u, Nat.mul_comm (2 ^ 32) p] at e2
  omega
theorem shl_carry {d s c : Nat} (hd : d < 2 ^ 32) (hs : s < 32) (hc : c < 2 ^ s) : d * 2 ^ s + c < 2 ^ 63 ∧ (d * 2 ^ s + c) / 2 ^ 32 < 2 ^ s := by
  have h1 : d * 2 ^ s + c < (d + 1) * 2 ^ s := by rw [Nat.add_mul]; omega
  have h2 : (d + 1) * 2 ^ s ≤ 2 ^ 32 * 2 ^ s := Nat.mul_le_mul_right _ (by omega)
  have h3 : (2 : Nat) ^ 32 * 2 ^ s ≤ 2 ^ 32 * 2 ^ 31 := Nat.mul_le_mul_left _ (Nat.pow_le_pow_right (by omega) (by omega))
  refine ⟨by omega, ?_⟩
  rw [Nat.div_lt_iff_lt_mul (by omega), Nat.mul_comm (2 ^ s)]; omega
theorem shl_or {d s c : Nat} (hc : c < 2 ^ s) : c ||| d * 2 ^ s = d * 2 ^ s + c := by
  rw [Nat.or_comm, Nat.mul_comm, ← Nat.two_pow_add_eq_or_of_lt hc]
/-- a digit of what is shifted down, out of two digits -/
theorem shr_dig (A q s j : Nat) (hs : s < 32) : (dig (q + j) A + dig (q + j + 1) A * 2 ^ 32) / 2 ^ s % 2 ^ 32 = dig j (A / 2 ^ (32 * q + s)) := by
  have e : (dig (q + j) A + dig (q + j + 1) A * 2 ^ 32) = A / 2 ^ (32 * (q + j)) % 2 ^ 64 := by
    unfold dig
    rw [show 32 * (q + j + 1) = 32 * (q + j) + 32 by omega, Nat.pow_add, ← Nat.div_div_eq_div_mul]
    generalize A / 2 ^ (32 * (q + j)) = x
    omega
  have e2 : dig j (A / 2 ^ (32 * q + s)) = A / 2 ^ (32 * (q + j)) / 2 ^ s % 2 ^ 32 := by
    unfold dig
    rw [Nat.div_div_eq_div_mul, Nat.div_div_eq_div_mul, ← Nat.pow_add, ← Nat.pow_add, show 32 * q + s + 32 * j = 32 * (q + j) + s by omega]
  rw [e, e2]
  generalize A / 2 ^ (32 * (q + j)) = x
  apply Nat.eq_of_testBit_eq
  intro k
  rw [Nat.testBit_mod_two_pow, Nat.testBit_mod_two_pow, Nat.testBit_div_two_pow, Nat.testBit_div_two_pow, Nat.testBit_mod_two_pow]
  by_cases hk : k < 32
  · rw [decide_eq_true hk, decide_eq_true (show k + s < 64 by omega)]; simp
  · rw [decide_eq_false hk]; simp
theorem shr_or (a b : Nat) (ha : a < 2 ^ 32) : a ||| b * 2 ^ 32 = a + b * 2 ^ 32 := by rw [shl_or ha, Nat.add_comm]
theorem shr_all {A q s m : Nat} (h : lenN A ≤ q + m) : A / 2 ^ (32 * q + s) < 2 ^ (32 * m) := by
  rw [Nat.div_lt_iff_lt_mul (Nat.two_pow_pos _), ← Nat.pow_add]
  exact Nat.lt_of_lt_of_le (lt_lenN A) (Nat.pow_le_pow_right (by omega) (by omega))
theorem cut_eq (A n : Nat) : A - A / 2 ^ n * 2 ^ n = A % 2 ^ n := by
  have := Nat.div_add_mod A (2 ^ n); rw [Nat.mul_comm] at this; omega
end Go.Proofs.YtpfoifflfgiaoaaGreatDoor
namespace Go.Proofs.YtpfoifflfgiaoaaGreatDoor
open Go.RowKit

/-- the length of a word, by parts -/
theorem lenB_shift {x k : Nat} (h : 2 ^ k ≤ x) : lenB x = k + lenB (x / 2 ^ k) := by
  have hp := Nat.two_pow_pos k
  have h0 : 1 ≤ x / 2 ^ k := (Nat.one_le_div_iff hp).2 h
  obtain ⟨h2, h3, h4⟩ := lenB_spec (show x / 2 ^ k ≠ 0 by omega)
  have e : k + lenB (x / 2 ^ k) = k + (lenB (x / 2 ^ k) - 1) + 1 := by omega
  rw [e]
  refine lenB_eq ?_ ?_
  · rw [Nat.pow_add, Nat.mul_comm]; exact (Nat.le_div_iff_mul_le hp).1 h3
  · rw [show k + (lenB (x / 2 ^ k) - 1) + 1 = lenB (x / 2 ^ k) + k by omega, Nat.pow_add]
    exact (Nat.div_lt_iff_lt_mul hp).1 h4
@[irreducible] def lenTab : ByteArray := ⟨((List.range 256).map (fun x => UInt8.ofNat (lenB x))).toArray⟩
theorem lenTab_size : lenTab.size = 256 := by unfold lenTab; decide +kernel
theorem lenTab_at : ∀ y : Fin 256, (if h : y.val < lenTab.size then (lenTab[y.val]'h).toNat else 0) = lenB y.val := by unfold lenTab; decide +kernel
theorem index_tab {x : Nat} (hx : x < 256) (w : World) : (Instr.index 9 (.string lenTab) (.int .u8 (x : Int))).run Tryz.prog w = .ok (.int .u8 ((lenB x : Nat) : Int)) w := by
  have h1 := lenTab_size
  have h2 := lenTab_at ⟨x, hx⟩
  have hs : x < lenTab.size := by omega
  rw [dif_pos hs] at h2
  have e := run_index_string (P := Tryz.prog) (w := w) 9 lenTab .u8 (x : Int) (by kernel_rfl)
  rw [e, dif_pos ⟨by omega, by omega⟩]
  simp only [Int.toNat_natCast, h2]
set_option maxRecDepth 20000 in
set_option maxHeartbeats 8000000 in
theorem lenc_0 {x x1 x2 x3 : Nat} (hx : x < 2 ^ 64) (g0 : x < 2 ^ 32) (g1 : x < 2 ^ 16) (g2 : x < 2 ^ 8) (w : World) :
    Calls Tryz.prog 256 #[.int .u64 (x : Int)] w fun e w' => e = .returned (.int .i64 ((0 + lenB x : Nat) : Int)) ∧ w = w' := by
  have f0 : ((4294967296 : Int) ≤ (x : Int)) = False := eq_false (by omega)
  have f1 : ((65536 : Int) ≤ (x : Int)) = False := eq_false (by omega)
  have f2 : ((256 : Int) ≤ (x : Int)) = False := eq_false (by omega)
  have h9 : x < 256 := by omega
  have hb := lenB_le (n := 8) (show x < 2 ^ 8 by omega)
  have wu : IntKind.u8.wrap (x : Int) = (x : Int) := by simp [IntKind.wrap, IntKind.signed, IntKind.bits]; omega
  have wn : IntKind.i64.wrap ((lenB x : Nat) : Int) = ((lenB x : Nat) : Int) := IntWalk.i64_in _ (by omega)
  have wm : IntKind.i64.wrap (0 + ((lenB x : Nat) : Int)) = 0 + ((lenB x : Nat) : Int) := IntWalk.i64_in _ (by omega)
  clear hx g0 g1 g2
  go_enter Tryz.func256, Tryz.ntmps256
  generalize hT : Value.string _ = sv
  have hT2 : sv = Value.string lenTab := by rw [← hT]; kernel_rfl
  have wi : ∀ w, (Instr.index 9 sv (.int .u8 (x : Int))).run Tryz.prog w = .ok (.int .u8 ((lenB x : Nat) : Int)) w := fun w => by rw [hT2]; exact index_tab h9 w
  clear hT hT2
  go_wp2
  go_ret
  exact ⟨ret_int (by omega), rfl⟩
set_option maxRecDepth 20000 in
set_option maxHeartbeats 8000000 in
theorem lenc_1 {x x1 x2 x3 : Nat} (hx : x < 2 ^ 64) (g0 : x < 2 ^ 32) (g1 : x < 2 ^ 16) (g2 : 2 ^ 8 ≤ x) (e2 : x / 2 ^ 8 = x3) (w : World) :
    Calls Tryz.prog 256 #[.int .u64 (x : Int)] w fun e w' => e = .returned (.int .i64 ((8 + lenB x3 : Nat) : Int)) ∧ w = w' := by
  have f0 : ((4294967296 : Int) ≤ (x : Int)) = False := eq_false (by omega)
  have f1 : ((65536 : Int) ≤ (x : Int)) = False := eq_false (by omega)
  have f2 : ((256 : Int) ≤ (x : Int)) = True := eq_true (by omega)
  have d2 : (x : Int) / 256 = (x3 : Int) := by omega
  have h9 : x3 < 256 := by omega
  have hb := lenB_le (n := 8) (show x3 < 2 ^ 8 by omega)
  have wu : IntKind.u8.wrap (x3 : Int) = (x3 : Int) := by simp [IntKind.wrap, IntKind.signed, IntKind.bits]; omega
  have wn : IntKind.i64.wrap ((lenB x3 : Nat) : Int) = ((lenB x3 : Nat) : Int) := IntWalk.i64_in _ (by omega)
  have wm : IntKind.i64.wrap (8 + ((lenB x3 : Nat) : Int)) = 8 + ((lenB x3 : Nat) : Int) := IntWalk.i64_in _ (by omega)
  clear hx g0 g1 g2 e2
  go_enter Tryz.func256, Tryz.ntmps256
  generalize hT : Value.string _ = sv
  have hT2 : sv = Value.string lenTab := by rw [← hT]; kernel_rfl
  have wi : ∀ w, (Instr.index 9 sv (.int .u8 (x3 : Int))).run Tryz.prog w = .ok (.int .u8 ((lenB x3 : Nat) : Int)) w := fun w => by rw [hT2]; exact index_tab h9 w
  clear hT hT2
  go_wp2
  go_ret
  exact ⟨ret_int (by omega), rfl⟩
set_option maxRecDepth 20000 in
set_option maxHeartbeats 8000000 in
theorem lenc_2 {x x1 x2 x3 : Nat} (hx : x < 2 ^ 64) (g0 : x < 2 ^ 32) (g1 : 2 ^ 16 ≤ x) (e1 : x / 2 ^ 16 = x2) (g2 : x2 < 2 ^ 8) (w : World) :
    Calls Tryz.prog 256 #[.int .u64 (x : Int)] w fun e w' => e = .returned (.int .i64 ((16 + lenB x2 : Nat) : Int)) ∧ w = w' := by
  have f0 : ((4294967296 : Int) ≤ (x : Int)) = False := eq_false (by omega)
  have f1 : ((65536 : Int) ≤ (x : Int)) = True := eq_true (by omega)
  have d1 : (x : Int) / 65536 = (x2 : Int) := by omega
  have f2 : ((256 : Int) ≤ (x2 : Int)) = False := eq_false (by omega)
  have h9 : x2 < 256 := by omega
  have hb := lenB_le (n := 8) (show x2 < 2 ^ 8 by omega)
  have wu : IntKind.u8.wrap (x2 : Int) = (x2 : Int) := by simp [IntKind.wrap, IntKind.signed, IntKind.bits]; omega
  have wn : IntKind.i64.wrap ((lenB x2 : Nat) : Int) = ((lenB x2 : Nat) : Int) := IntWalk.i64_in _ (by omega)
  have wm : IntKind.i64.wrap (16 + ((lenB x2 : Nat) : Int)) = 16 + ((lenB x2 : Nat) : Int) := IntWalk.i64_in _ (by omega)
  clear hx g0 g1 e1 g2
  go_enter Tryz.func256, Tryz.ntmps256
  generalize hT : Value.string _ = sv
  have hT2 : sv = Value.string lenTab := by rw [← hT]; kernel_rfl
  have wi : ∀ w, (Instr.index 9 sv (.int .u8 (x2 : Int))).run Tryz.prog w = .ok (.int .u8 ((lenB x2 : Nat) : Int)) w := fun w => by rw [hT2]; exact index_tab h9 w
  clear hT hT2
  go_wp2
  go_ret
  exact ⟨ret_int (by omega), rfl⟩
set_option maxRecDepth 20000 in
set_option maxHeartbeats 8000000 in
theorem lenc_3 {x x1 x2 x3 : Nat} (hx : x < 2 ^ 64) (g0 : x < 2 ^ 32) (g1 : 2 ^ 16 ≤ x) (e1 : x / 2 ^ 16 = x2) (g2 : 2 ^ 8 ≤ x2) (e2 : x2 / 2 ^ 8 = x3) (w : World) :
    Calls Tryz.prog 256 #[.int .u64 (x : Int)] w fun e w' => e = .returned (.int .i64 ((24 + lenB x3 : Nat) : Int)) ∧ w = w' := by
  have f0 : ((4294967296 : Int) ≤ (x : Int)) = False := eq_false (by omega)
  have f1 : ((65536 : Int) ≤ (x : Int)) = True := eq_true (by omega)
  have d1 : (x : Int) / 65536 = (x2 : Int) := by omega
  have f2 : ((256 : Int) ≤ (x2 : Int)) = True := eq_true (by omega)
  have d2 : (x2 : Int) / 256 = (x3 : Int) := by omega
  have h9 : x3 < 256 := by omega
  have hb := lenB_le (n := 8) (show x3 < 2 ^ 8 by omega)
  have wu : IntKind.u8.wrap (x3 : Int) = (x3 : Int) := by simp [IntKind.wrap, IntKind.signed, IntKind.bits]; omega
  have wn : IntKind.i64.wrap ((lenB x3 : Nat) : Int) = ((lenB x3 : Nat) : Int) := IntWalk.i64_in _ (by omega)
  have wm : IntKind.i64.wrap (24 + ((lenB x3 : Nat) : Int)) = 24 + ((lenB x3 : Nat) : Int) := IntWalk.i64_in _ (by omega)
  clear hx g0 g1 e1 g2 e2
  go_enter Tryz.func256, Tryz.ntmps256
  generalize hT : Value.string _ = sv
  have hT2 : sv = Value.string lenTab := by rw [← hT]; kernel_rfl
  have wi : ∀ w, (Instr.index 9 sv (.int .u8 (x3 : Int))).run Tryz.prog w = .ok (.int .u8 ((lenB x3 : Nat) : Int)) w := fun w => by rw [hT2]; exact index_tab h9 w
  clear hT hT2
  go_wp2
  go_ret
  exact ⟨ret_int (by omega), rfl⟩
set_option maxRecDepth 20000 in
set_option maxHeartbeats 8000000 in
theorem lenc_4 {x x1 x2 x3 : Nat} (hx : x < 2 ^ 64) (g0 : 2 ^ 32 ≤ x) (e0 : x / 2 ^ 32 = x1) (g1 : x1 < 2 ^ 16) (g2 : x1 < 2 ^ 8) (w : World) :
    Calls Tryz.prog 256 #[.int .u64 (x : Int)] w fun e w' => e = .returned (.int .i64 ((32 + lenB x1 : Nat) : Int)) ∧ w = w' := by
  have f0 : ((4294967296 : Int) ≤ (x : Int)) = True := eq_true (by omega)
  have d0 : (x : Int) / 4294967296 = (x1 : Int) := by omega
  have f1 : ((65536 : Int) ≤ (x1 : Int)) = False := eq_false (by omega)
  have f2 : ((256 : Int) ≤ (x1 : Int)) = False := eq_false (by omega)
  have h9 : x1 < 256 := by omega
  have hb := lenB_le (n := 8) (show x1 < 2 ^ 8 by omega)
  have wu : IntKind.u8.wrap (x1 : Int) = (x1 : Int) := by simp [IntKind.wrap, IntKind.signed, IntKind.bits]; omega
  have wn : IntKind.i64.wrap ((lenB x1 : Nat) : Int) = ((lenB x1 : Nat) : Int) := IntWalk.i64_in _ (by omega)
  have wm : IntKind.i64.wrap (32 + ((lenB x1 : Nat) : Int)) = 32 + ((lenB x1 : Nat) : Int) := IntWalk.i64_in _ (by omega)
  clear hx g0 e0 g1 g2
  go_enter Tryz.func256, Tryz.ntmps256
  generalize hT : Value.string _ = sv
  have hT2 : sv = Value.string lenTab := by rw [← hT]; kernel_rfl
  have wi : ∀ w, (Instr.index 9 sv (.int .u8 (x1 : Int))).run Tryz.prog w = .ok (.int .u8 ((lenB x1 : Nat) : Int)) w := fun w => by rw [hT2]; exact index_tab h9 w
  clear hT hT2
  go_wp2
  go_ret
  exact ⟨ret_int (by omega), rfl⟩
set_option maxRecDepth 20000 in
set_option maxHeartbeats 8000000 in
theorem lenc_5 {x x1 x2 x3 : Nat} (hx : x < 2 ^ 64) (g0 : 2 ^ 32 ≤ x) (e0 : x / 2 ^ 32 = x1) (g1 : x1 < 2 ^ 16) (g2 : 2 ^ 8 ≤ x1) (e2 : x1 / 2 ^ 8 = x3) (w : World) :
    Calls Tryz.prog 256 #[.int .u64 (x : Int)] w fun e w' => e = .returned (.int .i64 ((40 + lenB x3 : Nat) : Int)) ∧ w = w' := by
  have f0 : ((4294967296 : Int) ≤ (x : Int)) = True := eq_true (by omega)
  have d0 : (x : Int) / 4294967296 = (x1 : Int) := by omega
  have f1 : ((65536 : Int) ≤ (x1 : Int)) = False := eq_false (by omega)
  have f2 : ((256 : Int) ≤ (x1 : Int)) = True := eq_true (by omega)
  have d2 : (x1 : Int) / 256 = (x3 : Int) := by omega
  have h9 : x3 < 256 := by omega
  have hb := lenB_le (n := 8) (show x3 < 2 ^ 8 by omega)
  have wu : IntKind.u8.wrap (x3 : Int) = (x3 : Int) := by simp [IntKind.wrap, IntKind.signed, IntKind.bits]; omega
  have wn : IntKind.i64.wrap ((lenB x3 : Nat) : Int) = ((lenB x3 : Nat) : Int) := IntWalk.i64_in _ (by omega)
  have wm : IntKind.i64.wrap (40 + ((lenB x3 : Nat) : Int)) = 40 + ((lenB x3 : Nat) : Int) := IntWalk.i64_in _ (by omega)
  clear hx g0 e0 g1 g2 e2
  go_enter Tryz.func256, Tryz.ntmps256
  generalize hT : Value.string _ = sv
  have hT2 : sv = Value.string lenTab := by rw [← hT]; kernel_rfl
  have wi : ∀ w, (Instr.index 9 sv (.int .u8 (x3 : Int))).run Tryz.prog w = .ok (.int .u8 ((lenB x3 : Nat) : Int)) w := fun w => by rw [hT2]; exact index_tab h9 w
  clear hT hT2
  go_wp2
  go_ret
  exact ⟨ret_int (by omega), rfl⟩
set_option maxRecDepth 20000 in
set_option maxHeartbeats 8000000 in
theorem lenc_6 {x x1 x2 x3 : Nat} (hx : x < 2 ^ 64) (g0 : 2 ^ 32 ≤ x) (e0 : x / 2 ^ 32 = x1) (g1 : 2 ^ 16 ≤ x1) (e1 : x1 / 2 ^ 16 = x2) (g2 : x2 < 2 ^ 8) (w : World) :
    Calls Tryz.prog 256 #[.int .u64 (x : Int)] w fun e w' => e = .returned (.int .i64 ((48 + lenB x2 : Nat) : Int)) ∧ w = w' := by
  have f0 : ((4294967296 : Int) ≤ (x : Int)) = True := eq_true (by omega)
  have d0 : (x : Int) / 4294967296 = (x1 : Int) := by omega
  have f1 : ((65536 : Int) ≤ (x1 : Int)) = True := eq_true (by omega)
  have d1 : (x1 : Int) / 65536 = (x2 : Int) := by omega
  have f2 : ((256 : Int) ≤ (x2 : Int)) = False := eq_false (by omega)
  have h9 : x2 < 256 := by omega
  have hb := lenB_le (n := 8) (show x2 < 2 ^ 8 by omega)
  have wu : IntKind.u8.wrap (x2 : Int) = (x2 : Int) := by simp [IntKind.wrap, IntKind.signed, IntKind.bits]; omega
  have wn : IntKind.i64.wrap ((lenB x2 : Nat) : Int) = ((lenB x2 : Nat) : Int) := IntWalk.i64_in _ (by omega)
  have wm : IntKind.i64.wrap (48 + ((lenB x2 : Nat) : Int)) = 48 + ((lenB x2 : Nat) : Int) := IntWalk.i64_in _ (by omega)
  clear hx g0 e0 g1 e1 g2
  go_enter Tryz.func256, Tryz.ntmps256
  generalize hT : Value.string _ = sv
  have hT2 : sv = Value.string lenTab := by rw [← hT]; kernel_rfl
  have wi : ∀ w, (Instr.index 9 sv (.int .u8 (x2 : Int))).run Tryz.prog w = .ok (.int .u8 ((lenB x2 : Nat) : Int)) w := fun w => by rw [hT2]; exact index_tab h9 w
  clear hT hT2
  go_wp2
  go_ret
  exact ⟨ret_int (by omega), rfl⟩
set_option maxRecDepth 20000 in
set_option maxHeartbeats 8000000 in
theorem lenc_7 {x x1 x2 x3 : Nat} (hx : x < 2 ^ 64) (g0 : 2 ^ 32 ≤ x) (e0 : x / 2 ^ 32 = x1) (g1 : 2 ^ 16 ≤ x1) (e1 : x1 / 2 ^ 16 = x2) (g2 : 2 ^ 8 ≤ x2) (e2 : x2 / 2 ^ 8 = x3) (w : World) :
    Calls Tryz.prog 256 #[.int .u64 (x : Int)] w fun e w' => e = .returned (.int .i64 ((56 + lenB x3 : Nat) : Int)) ∧ w = w' := by
  have f0 : ((4294967296 : Int) ≤ (x : Int)) = True := eq_true (by omega)
  have d0 : (x : Int) / 4294967296 = (x1 : Int) := by omega
  have f1 : ((65536 : Int) ≤ (x1 : Int)) = True := eq_true (by omega)
  have d1 : (x1 : Int) / 65536 = (x2 : Int) := by omega
  have f2 : ((256 : Int) ≤ (x2 : Int)) = True := eq_true (by omega)
  have d2 : (x2 : Int) / 256 = (x3 : Int) := by omega
  have h9 : x3 < 256 := by omega
  have hb := lenB_le (n := 8) (show x3 < 2 ^ 8 by omega)
  have wu : IntKind.u8.wrap (x3 : Int) = (x3 : Int) := by simp [IntKind.wrap, IntKind.signed, IntKind.bits]; omega
  have wn : IntKind.i64.wrap ((lenB x3 : Nat) : Int) = ((lenB x3 : Nat) : Int) := IntWalk.i64_in _ (by omega)
  have wm : IntKind.i64.wrap (56 + ((lenB x3 : Nat) : Int)) = 56 + ((lenB x3 : Nat) : Int) := IntWalk.i64_in _ (by omega)
  clear hx g0 e0 g1 e1 g2 e2
  go_enter Tryz.func256, Tryz.ntmps256
  generalize hT : Value.string _ = sv
  have hT2 : sv = Value.string lenTab := by rw [← hT]; kernel_rfl
  have wi : ∀ w, (Instr.index 9 sv (.int .u8 (x3 : Int))).run Tryz.prog w = .ok (.int .u8 ((lenB x3 : Nat) : Int)) w := fun w => by rw [hT2]; exact index_tab h9 w
  clear hT hT2
  go_wp2
  go_ret
  exact ⟨ret_int (by omega), rfl⟩
theorem len64_any {x : Nat} (hx : x < 2 ^ 64) (w : World) :
    Calls Tryz.prog 256 #[.int .u64 (x : Int)] w fun e w' => e = .returned (.int .i64 ((lenB x : Nat) : Int)) ∧ w = w' := by
  rcases Nat.lt_or_ge x (2 ^ 32) with a | a
  · rcases Nat.lt_or_ge (x) (2 ^ 16) with b | b
    · rcases Nat.lt_or_ge (x) (2 ^ 8) with c | c
      · have := lenc_0 (x := x) (x1 := x) (x2 := x) (x3 := x) hx a b c w
        have e : lenB x = 0 + lenB (x) := by omega
        rw [e]; exact this
      · have := lenc_1 (x := x) (x1 := x) (x2 := x) (x3 := x / 2 ^ 8) hx a b c rfl w
        have e : lenB x = 8 + lenB (x / 2 ^ 8) := by rw [lenB_shift c] <;> omega
        rw [e]; exact this
    · rcases Nat.lt_or_ge (x / 2 ^ 16) (2 ^ 8) with c | c
      · have := lenc_2 (x := x) (x1 := x) (x2 := x / 2 ^ 16) (x3 := x / 2 ^ 16) hx a b rfl c w
        have e : lenB x = 16 + lenB (x / 2 ^ 16) := by rw [lenB_shift b] <;> omega
        rw [e]; exact this
      · have := lenc_3 (x := x) (x1 := x) (x2 := x / 2 ^ 16) (x3 := x / 2 ^ 16 / 2 ^ 8) hx a b rfl c rfl w
        have e : lenB x = 24 + lenB (x / 2 ^ 16 / 2 ^ 8) := by rw [lenB_shift b, lenB_shift c] <;> omega
        rw [e]; exact this
  · rcases Nat.lt_or_ge (x / 2 ^ 32) (2 ^ 16) with b | b
    · rcases Nat.lt_or_ge (x / 2 ^ 32) (2 ^ 8) with c | c
      · have := lenc_4 (x := x) (x1 := x / 2 ^ 32) (x2 := x / 2 ^ 32) (x3 := x / 2 ^ 32) hx a rfl b c w
        have e : lenB x = 32 + lenB (x / 2 ^ 32) := by rw [lenB_shift a] <;> omega
        rw [e]; exact this
      · have := lenc_5 (x := x) (x1 := x / 2 ^ 32) (x2 := x / 2 ^ 32) (x3 := x / 2 ^ 32 / 2 ^ 8) hx a rfl b c rfl w
        have e : lenB x = 40 + lenB (x / 2 ^ 32 / 2 ^ 8) := by rw [lenB_shift a, lenB_shift c] <;> omega
        rw [e]; exact this
    · rcases Nat.lt_or_ge (x / 2 ^ 32 / 2 ^ 16) (2 ^ 8) with c | c
      · have := lenc_6 (x := x) (x1 := x / 2 ^ 32) (x2 := x / 2 ^ 32 / 2 ^ 16) (x3 := x / 2 ^ 32 / 2 ^ 16) hx a rfl b rfl c w
        have e : lenB x = 48 + lenB (x / 2 ^ 32 / 2 ^ 16) := by rw [lenB_shift a, lenB_shift b] <;> omega
        rw [e]; exact this
      · have := lenc_7 (x := x) (x1 := x / 2 ^ 32) (x2 := x / 2 ^ 32 / 2 ^ 16) (x3 := x / 2 ^ 32 / 2 ^ 16 / 2 ^ 8) hx a rfl b rfl c rfl w
        have e : lenB x = 56 + lenB (x / 2 ^ 32 / 2 ^ 16 / 2 ^ 8) := by rw [lenB_shift a, lenB_shift b, lenB_shift c] <;> omega
        rw [e]; exact this
end Go.Proofs.YtpfoifflfgiaoaaGreatDoor
namespace Go.Proofs.YtpfoifflfgiaoaaGreatDoor

/-- the first k of the 128 places -/
def first128 (k : Nat) : List (Fin 128) := (List.finRange 128).take k
theorem first128_succ {k : Nat} (h : k < 128) : first128 (k + 1) = first128 k ++ [⟨k, h⟩] := by
  unfold first128
  rw [List.take_succ_eq_append_getElem (by simpa using h)]; simp
theorem first128_length {k : Nat} (h : k ≤ 128) : (first128 k).length = k := by unfold first128; simp; omega
/-- one bit more, where the square allows it -/
def orStep (n r i : Nat) : Nat := if (r ||| 2 ^ i) * (r ||| 2 ^ i) ≤ n then r ||| 2 ^ i else r
/-- the root's bits along a list of places -/
def orS (n : Nat) (pre : List (Fin 128)) : Nat := pre.foldl (fun r x => orStep n r (127 - x.val)) 0
theorem orS_nil (n : Nat) : orS n [] = 0 := rfl
theorem orS_snoc (n : Nat) (pre : List (Fin 128)) (x : Fin 128) : orS n (pre ++ [x]) = orStep n (orS n pre) (127 - x.val) := by
  unfold orS; rw [List.foldl_append]; rfl
theorem or_w {A i : Nat} (h : W128 A) (hi : i < 128) : W128 (A ||| 2 ^ i) := ⟨Nat.or_lt_two_pow h.lt (Nat.pow_lt_pow_right (by omega) hi)⟩
theorem orStep_w {n r i : Nat} (h : W128 r) (hi : i < 128) : W128 (orStep n r i) := by
  unfold orStep; split
  · exact or_w h hi
  · exact h
theorem orS_w_aux (n : Nat) : ∀ (pre : List (Fin 128)) (r : Nat), W128 r → W128 (pre.foldl (fun r x => orStep n r (127 - x.val)) r)
  | [], _, h => h
  | x :: l, r, h => orS_w_aux n l _ (orStep_w h (by omega))
theorem orS_w (n : Nat) (pre : List (Fin 128)) : W128 (orS n pre) := orS_w_aux n pre 0 ⟨by omega⟩
theorem orS_first {n : Nat} (hn : W256 n) : ∀ k, k ≤ 128 → orS n (first128 k) = rootS n k
  | 0, _ => by unfold first128; rw [List.take_zero, orS_nil]; rfl
  | k + 1, h => by
    rw [first128_succ (by omega), orS_snoc, orS_first hn k (by omega), rootS_succ]
    unfold orStep
    rw [rootS_or hn (by omega)]
theorem orS_all {n : Nat} (hn : W256 n) : orS n (first128 128) = rootN n := by rw [orS_first hn 128 (Nat.le_refl _), rootS_all]
theorem pow_w {i : Nat} (h : i < 128) : W128 (2 ^ i) := ⟨Nat.pow_lt_pow_right (by omega) h⟩
end Go.Proofs.YtpfoifflfgiaoaaGreatDoor
namespace Go.Proofs.YtpfoifflfgiaoaaGreatDoor
open Go.RowKit Go.Shelf
attribute [local go_sem] Oper.semAt_some

theorem Left_one (i : Nat) (hi : i < 128) {z : Int} (hz : z = (i : Int)) (w : World) :
    Calls Tryz.prog 140 #[.agg #[.int .u64 0, .int .u64 1], .int .i64 z] w fun e w' => e = .returned (bitsV (2 ^ i)) ∧ Below w.heap.size w w' := by
  have h : left128 (val2 1 0) z = 2 ^ i := by
    unfold left128
    rw [hz, show val2 1 0 = 1 from rfl, Nat.one_mul, Int.toNat_natCast, Nat.mod_eq_of_lt (Nat.pow_lt_pow_right (by omega) hi)]
  exact calls_to (Left_at (IsBits.val u64_zero (U64.mk' (by omega) (by omega))) z (by omega) (by omega) w) (by rw [h])
theorem grown_of_below {A B : World} (h : Below A.heap.size A B) : A.grownBy B none := ⟨h.os, h.tape, h.output, h.size, fun k hk _ => h.block k hk⟩
set_option maxRecDepth 100000 in
set_option maxHeartbeats 2000000 in
theorem bits1_in (n : Nat) (hn : 1 ≤ n) (l n₀ : Nat) (J Jx : List (Fin 128) → World → Prop) (B : Nat) (hJ : AbidesFrom B J)
    (hY : ∀ pre x W, J pre W → pre.length < 128 → YieldAt Fence.wide (n - 1) Tryz.prog l #[bitsV (2 ^ (127 - x.val))] W fun e W' =>
      (e = .returned (.bool true) ∧ J (pre ++ [x]) W' ∧ Below n₀ W W') ∨ (e = .returned (.bool false) ∧ Jx (pre ++ [x]) W'))
    (W : World) (h0 : J [] W) :
    CallsIn Fence.wide n Tryz.prog 237 #[.func (.yield l) #[] #[]] W fun e W' => (∃ v, e = .returned v) ∧
      ((∃ ys, ys = first128 128 ∧ J ys W') ∨ (∃ pre, (∃ k, k ≤ 128 ∧ pre = first128 k) ∧ Jx pre W')) := by
  refine callsIn_of_wp Tryz.func237 rfl trivial ?_ rfl
  simp only [Tryz.ntmps237, List.size_toArray, List.length_cons, List.length_nil, Nat.reduceAdd, Nat.reduceSub, Array.replicate_succ, Array.replicate_zero, List.push_toArray, List.append_toArray, List.nil_append, List.cons_append]
  gi_wp2
  gi_loopw [2] (fun i wr => ∃ k : Nat, k ≤ 128 ∧ i = .int .i64 (127 - (k : Int)) ∧ J (first128 k) wr)
    (fun i _ => (intOf i + 1).toNat)
  case atStart => exact ⟨0, Nat.zero_le _, rfl, h0⟩
  case round =>
    obtain ⟨k, hk, rfl, hJs⟩ := hrel
    by_cases hlt : k < 128
    · have g0 : (0 : Int) ≤ 127 - (k : Int) := by omega
      have g1 : (k : Int) ≤ 127 := by omega
      gi_wp2_with fail
      refine ⟨trivial, ?_⟩
      refine (callsIn_wide.2 (Left_one (127 - k) (by omega) (by omega) _)).mono ?_
      rintro e w1 ⟨rfl, hb⟩
      have hJ1 := hJ _ _ _ none hJs (grown_of_below hb) (fun r e => by cases e)
      obtain ⟨fn, tmps, assign, body, hy, hR⟩ := hY _ ⟨k, hlt⟩ w1 hJ1 (by rw [first128_length hk]; exact hlt)
      dsimp only at hy
      clear hb hJs
      gi_wp2
      refine hR.mono ?_
      rintro e W3 (⟨rfl, hJ3, hk3⟩ | ⟨rfl, hJx3⟩)
      · gi_wp2
        go_roundw
        case rel => exact ⟨k + 1, by omega, by simp; omega, by rw [first128_succ hlt]; exact hJ3⟩
        case measure => simp [intOf]; omega
      · gi_wp2
        go_end0
        exact ⟨⟨_, rfl⟩, .inr ⟨_, ⟨k + 1, by omega, (first128_succ hlt).symm⟩, hJx3⟩⟩
    · have hge : (127 : Int) - k < 0 := by omega
      have hge2 : ¬ (k : Int) ≤ 127 := by omega
      have H4 := Lib.hid (show first128 k = first128 128 by rw [show k = 128 by omega])
      clear hk hlt
      gi_wp2
      refine ⟨trivial, ?_⟩
      gi_wp2
      refine ⟨fun _ h => (by cases h), ?_⟩
      gi_wp2
      go_end0
      exact ⟨⟨_, rfl⟩, .inl ⟨_, H4.out, hJs⟩⟩

theorem bits_stops (n : Nat) (hn : 1 ≤ n) (n₀ : Nat) (w : World) :
    SeqStopsK Fence.wide n Tryz.prog 237 #[] (fun x : Fin 128 => #[bitsV (2 ^ (127 - x.val))]) (Below n₀) (fun ys => ys = first128 128) (fun pre => ∃ k, k ≤ 128 ∧ pre = first128 k) 128 w := fun l J Jx W hB hJ _ hY h0 => by
  refine (bits1_in n hn l n₀ J Jx _ hJ hY W h0).mono ?_
  rintro e W' ⟨he, h⟩
  exact ⟨he, h⟩

set_option maxRecDepth 100000 in
theorem bits_in (n : Nat) (w : World) :
    CallsIn Fence.wide n Tryz.prog 170 #[] w fun e w' => e = .returned (.func (.func 237) #[] #[]) ∧ w = w' := by
  refine callsIn_of_wp Tryz.func170 rfl trivial ?_ rfl
  simp only [Tryz.ntmps170, List.size_toArray, List.length_cons, List.length_nil, Nat.reduceAdd, Nat.reduceSub, Array.replicate_succ, Array.replicate_zero, List.push_toArray, List.append_toArray, List.nil_append, List.cons_append]
  gi_wp2
  go_ret
  exact ⟨rfl, rfl⟩
end Go.Proofs.YtpfoifflfgiaoaaGreatDoor
namespace Go.Proofs.YtpfoifflfgiaoaaGreatDoor
open Go.RowKit Go.Shelf

theorem def_call {W W' : World} {D : Nat} {o : Obj} (hb : Below W.heap.size W W') (h : W.heap[D]? = some o) : W'.heap[D]? = some o := (hb.block D (Array.getElem?_eq_some_iff.1 h).1).trans h
theorem def_set {W : World} {D : Nat} {o : Obj} {p : Addr} {v : Value} (h : W.heap[D]? = some o) (ho : o.isCells = false := by rfl) : (W.setCell p v).heap[D]? = some o := (KeepsOthers.setCell W p v).same D _ h ho
theorem def_drew {W : World} {D : Nat} {o : Obj} (h : W.heap[D]? = some o) : W.drew.heap[D]? = some o := h
end Go.Proofs.YtpfoifflfgiaoaaGreatDoor
