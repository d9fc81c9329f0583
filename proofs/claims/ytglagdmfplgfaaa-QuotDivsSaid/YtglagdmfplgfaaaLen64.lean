/- The length of a word, as Go's library reckons it: contract. -/
import Derived.Deep.Cut
import Derived.Test.YtglagdmfplgfaaaNum1
import Derived.Test.YtglagdmfplgfaaaDig2
import Derived.Test.YtglagdmfplgfaaaQuotS
set_option linter.unusedVariables false
set_option linter.unusedSimpArgs false
namespace Go.Proofs.Ytglagdmfplgfaaa
open Go.RowKit

/-- a guess of a digit of the quotient, and what is left: no less than the digit -/
structure Guess (Y a b u v q r : Nat) : Prop where
  left : q * a + r = u
  more : u * 2 ^ 32 + v < (q + 1) * Y
theorem guess_mul {Y a b : Nat} (hY : Y = a * 2 ^ 32 + b) (q : Nat) : q * Y = q * a * 2 ^ 32 + q * b := by rw [hY, Nat.mul_add, Nat.mul_assoc]
theorem guess_start {Y a b u v : Nat} (hY : Y = a * 2 ^ 32 + b) (ha : 2 ^ 31 ≤ a) (hb : b < 2 ^ 32) (hu : u < Y) (hv : v < 2 ^ 32) : Guess Y a b u v (u / a) (u % a) ∧ u / a ≤ 2 ^ 32 + 1 := by
  have e := Nat.div_add_mod u a
  have hm := Nat.mod_lt u (show 0 < a by omega)
  rw [Nat.mul_comm] at e
  refine ⟨⟨e, ?_⟩, ?_⟩
  · rw [guess_mul hY, Nat.add_mul, Nat.one_mul]
    have : (u / a * a + a) * 2 ^ 32 ≥ (u + 1) * 2 ^ 32 := Nat.mul_le_mul_right _ (by omega)
    have h0 : 0 ≤ (u / a + 1) * b := Nat.zero_le _
    omega
  · have h1 : u / a * a < (2 ^ 32 + 2) * a := by omega
    have := Nat.lt_of_mul_lt_mul_right h1
    omega
theorem guess_down {Y a b u v q r : Nat} (hY : Y = a * 2 ^ 32 + b) (hu : u < Y) (hv : v < 2 ^ 32) (g : Guess Y a b u v q r) (h : 2 ^ 32 ≤ q ∨ 2 ^ 32 * r + v < q * b) : 1 ≤ q ∧ Guess Y a b u v (q - 1) (r + a) := by
  have hl := g.left
  have key : u * 2 ^ 32 + v < q * Y := by
    rcases h with h | h
    · have := Nat.mul_le_mul_right Y h
      omega
    · rw [guess_mul hY]; omega
  have hq : 1 ≤ q := by
    rcases q with _ | q
    · omega
    · omega
  refine ⟨hq, ?_, ?_⟩
  · obtain ⟨p, rfl⟩ : ∃ p, q = p + 1 := ⟨q - 1, by omega⟩
    rw [Nat.add_sub_cancel]
    rw [Nat.add_mul, Nat.one_mul] at hl
    omega
  · rw [show q - 1 + 1 = q by omega]; exact key
theorem guess_end {Y a b u v q r : Nat} (hY : Y = a * 2 ^ 32 + b) (g : Guess Y a b u v q r) (h : q * b ≤ 2 ^ 32 * r + v) : q * Y ≤ u * 2 ^ 32 + v := by
  have hl := g.left
  rw [guess_mul hY]; omega
theorem guess_far {b q r v : Nat} (hb : b < 2 ^ 32) (hq : q ≤ 2 ^ 32) (hr : 2 ^ 32 ≤ r) : q * b ≤ 2 ^ 32 * r + v := by
  have := Nat.mul_le_mul hq (show b ≤ 2 ^ 32 - 1 by omega)
  omega
theorem guess_digit {Y u v q : Nat} (h0 : q * Y ≤ u * 2 ^ 32 + v) (hu : u < Y) (hv : v < 2 ^ 32) : q < 2 ^ 32 := by
  rcases Nat.lt_or_ge q (2 ^ 32) with h | h
  · exact h
  · have := Nat.mul_le_mul_right Y h
    omega
theorem and_mask {x : Nat} (hx : x < 2 ^ 64) : bits .and .u64 (x : Int) 4294967295 = ((x % 2 ^ 32 : Nat) : Int) := by
  have e1 : (BitVec.ofNat 64 x &&& BitVec.ofNat 64 4294967295).toNat = x % 2 ^ 32 := by
    rw [BitVec.toNat_and, BitVec.toNat_ofNat, BitVec.toNat_ofNat, Nat.mod_eq_of_lt hx, Nat.mod_eq_of_lt (by omega), show (4294967295 : Nat) = 2 ^ 32 - 1 from rfl, Nat.and_two_pow_sub_one_eq_mod]
  show IntKind.u64.wrap ((BitVec.ofInt 64 ((x : Nat) : Int) &&& BitVec.ofInt 64 ((4294967295 : Nat) : Int)).toNat : Nat) = _
  rw [BitVec.ofInt_natCast, BitVec.ofInt_natCast, e1]
  exact wrap_u64 (by omega) (by omega)
theorem or_high {h s lo : Nat} (h1 : h * 2 ^ s < 2 ^ 64) (h2 : lo < 2 ^ s) (h3 : lo < 2 ^ 64) : bits .or .u64 ((h * 2 ^ s : Nat) : Int) (lo : Int) = ((h * 2 ^ s + lo : Nat) : Int) := by
  rw [or_u64 ⟨by omega, by omega⟩ ⟨by omega, by omega⟩, Int.toNat_natCast, Int.toNat_natCast, Nat.mul_comm h, ← Nat.two_pow_add_eq_or_of_lt h2]
/-- the number moved up: its parts -/
theorem moved_up {h l y s : Nat} (hh : h < y) (hl : l < 2 ^ 64) (hs : s ≤ 64) (hy : y * 2 ^ s < 2 ^ 64) :
    l / 2 ^ (64 - s) < 2 ^ s ∧ h * 2 ^ s + l / 2 ^ (64 - s) < y * 2 ^ s ∧ (h * 2 ^ 64 + l) * 2 ^ s = (h * 2 ^ s + l / 2 ^ (64 - s)) * 2 ^ 64 + l * 2 ^ s % 2 ^ 64 := by
  have e : (2 : Nat) ^ 64 = 2 ^ (64 - s) * 2 ^ s := by rw [← Nat.pow_add]; congr 1; omega
  have h1 : l / 2 ^ (64 - s) < 2 ^ s := by
    rw [Nat.div_lt_iff_lt_mul (Nat.two_pow_pos _), Nat.mul_comm, ← e]; exact hl
  have h2 : (h + 1) * 2 ^ s ≤ y * 2 ^ s := Nat.mul_le_mul_right _ hh
  rw [Nat.add_mul, Nat.one_mul] at h2
  refine ⟨h1, by omega, ?_⟩
  have h3 := Nat.div_add_mod (l * 2 ^ s) (2 ^ 64)
  have h4 : l * 2 ^ s / 2 ^ 64 = l / 2 ^ (64 - s) := by rw [e, Nat.mul_div_mul_right _ _ (Nat.two_pow_pos _)]
  rw [h4] at h3
  rw [Nat.add_mul, Nat.add_mul, Nat.mul_right_comm]
  clear e h1 h2 h4 hl hh hy
  generalize l / 2 ^ (64 - s) = V at *
  generalize h * 2 ^ s = X at *
  generalize l * 2 ^ s = Z at *
  rw [Nat.mul_comm] at h3
  generalize (2 : Nat) ^ 64 = M at *
  rw [← h3, ← Nat.add_assoc]
  have : Z % M % M = Z % M := Nat.mod_mod _ _
  rw [h3]
/-- the two digits together -/
theorem digits_two {N Y y s u1 v1 v0 q1 r1 q0 r0 : Nat} (hY : Y = y * 2 ^ s) (hy : 0 < y) (hN : N * 2 ^ s = u1 * 2 ^ 64 + (v1 * 2 ^ 32 + v0)) (e1 : u1 * 2 ^ 32 + v1 = q1 * Y + r1) (e0 : r1 * 2 ^ 32 + v0 = q0 * Y + r0) (hr : r0 < Y) :
    q1 * 2 ^ 32 + q0 = N / y ∧ r0 / 2 ^ s = N % y := by
  have h1 : N * 2 ^ s = (q1 * 2 ^ 32 + q0) * Y + r0 := by
    have h0 : N * 2 ^ s = (u1 * 2 ^ 32 + v1) * 2 ^ 32 + v0 := by
      rw [hN, Nat.add_mul, Nat.mul_assoc, show (2 : Nat) ^ 32 * 2 ^ 32 = 2 ^ 64 from rfl, Nat.add_assoc]
    rw [h0, e1, Nat.add_mul, Nat.add_assoc, e0, Nat.add_mul, Nat.mul_right_comm, Nat.add_assoc]
  have hp := Nat.two_pow_pos s
  rw [hY, ← Nat.mul_assoc] at h1
  have h2 : r0 % 2 ^ s = 0 := by
    have : (N * 2 ^ s) % 2 ^ s = 0 := Nat.mul_mod_left _ _
    rw [h1, Nat.add_comm, Nat.add_mul_mod_self_right] at this
    exact this
  obtain ⟨t, ht⟩ := Nat.dvd_of_mod_eq_zero h2
  rw [Nat.mul_comm] at ht
  subst ht
  rw [← Nat.add_mul] at h1
  have h3 := Nat.eq_of_mul_eq_mul_right hp h1
  have h4 : t < y := by
    rw [hY] at hr
    exact Nat.lt_of_mul_lt_mul_right hr
  have e : (q1 * 2 ^ 32 + q0) * y + t = t + (q1 * 2 ^ 32 + q0) * y := Nat.add_comm _ _
  rw [Nat.mul_div_cancel _ hp, h3, e, Nat.add_mul_div_right _ _ hy, Nat.add_mul_mod_self_right, Nat.div_eq_of_lt h4, Nat.mod_eq_of_lt h4]
  exact ⟨(Nat.zero_add _).symm, rfl⟩
theorem lenB_up {y : Nat} (h : 0 < y) (hy : y < 2 ^ 64) : lenB y ≤ 64 ∧ 1 ≤ lenB y ∧ 2 ^ 63 ≤ y * 2 ^ (64 - lenB y) ∧ y * 2 ^ (64 - lenB y) < 2 ^ 64 := by
  have h1 := lenB_le hy
  obtain ⟨h2, h3, h4⟩ := lenB_spec (show y ≠ 0 by omega)
  refine ⟨h1, h2, ?_, ?_⟩
  · have := Nat.mul_le_mul_right (2 ^ (64 - lenB y)) h3
    rwa [← Nat.pow_add, show lenB y - 1 + (64 - lenB y) = 63 by omega] at this
  · have := Nat.mul_lt_mul_of_pos_right h4 (Nat.two_pow_pos (64 - lenB y))
    rwa [← Nat.pow_add, show lenB y + (64 - lenB y) = 64 by omega] at this
/-- the length of a word, by parts -/
theorem lenB_shift {x k : Nat} (h : 2 ^ k ≤ x) : lenB x = k + lenB (x / 2 ^ k) := by
  have hp := Nat.two_pow_pos k
  have h0 : 1 ≤ x / 2 ^ k := (Nat.one_le_div_iff hp).2 h
  obtain ⟨h2, h3, h4⟩ := lenB_spec (show x / 2 ^ k ≠ 0 by omega)
  have e : k + lenB (x / 2 ^ k) = k + (lenB (x / 2 ^ k) - 1) + 1 := by omega
  rw [e]
  refine lenB_eq ?_ ?_
  · rw [Nat.pow_add, Nat.mul_comm]; exact (Nat.le_div_iff_mul_le hp).1 h3
  · rw [show k + (lenB (x / 2 ^ k) - 1) + 1 = lenB (x / 2 ^ k) + k by omega, Nat.pow_add]
    exact (Nat.div_lt_iff_lt_mul hp).1 h4
@[irreducible] def lenTab : ByteArray := ⟨((List.range 256).map (fun x => UInt8.ofNat (lenB x))).toArray⟩
theorem lenTab_size : lenTab.size = 256 := by unfold lenTab; decide +kernel
theorem lenTab_at : ∀ y : Fin 256, (if h : y.val < lenTab.size then (lenTab[y.val]'h).toNat else 0) = lenB y.val := by unfold lenTab; decide +kernel
theorem index_tab {x : Nat} (hx : x < 256) (w : World) : (Instr.index 9 (.string lenTab) (.int .u8 (x : Int))).run Try.prog w = .ok (.int .u8 ((lenB x : Nat) : Int)) w := by
  have h1 := lenTab_size
  have h2 := lenTab_at ⟨x, hx⟩
  have hs : x < lenTab.size := by omega
  rw [dif_pos hs] at h2
  have e := run_index_string (P := Try.prog) (w := w) 9 lenTab .u8 (x : Int) (by kernel_rfl)
  rw [e, dif_pos ⟨by omega, by omega⟩]
  simp only [Int.toNat_natCast, h2]
set_option maxRecDepth 20000 in
set_option maxHeartbeats 8000000 in
theorem lenc_0 {x x1 x2 x3 : Nat} (hx : x < 2 ^ 64) (g0 : x < 2 ^ 32) (g1 : x < 2 ^ 16) (g2 : x < 2 ^ 8) (w : World) :
    Calls Try.prog 103 #[.int .u64 (x : Int)] w fun e w' => e = .returned (.int .i64 ((0 + lenB x : Nat) : Int)) ∧ w = w' := by
  have f0 : ((4294967296 : Int) ≤ (x : Int)) = False := eq_false (by omega)
  have f1 : ((65536 : Int) ≤ (x : Int)) = False := eq_false (by omega)
  have f2 : ((256 : Int) ≤ (x : Int)) = False := eq_false (by omega)
  have h9 : x < 256 := by omega
  have hb := lenB_le (n := 8) (show x < 2 ^ 8 by omega)
  have wu : IntKind.u8.wrap (x : Int) = (x : Int) := by simp [IntKind.wrap, IntKind.signed, IntKind.bits]; omega
  have wn : IntKind.i64.wrap ((lenB x : Nat) : Int) = ((lenB x : Nat) : Int) := IntWalk.i64_in _ (by omega)
  have wm : IntKind.i64.wrap (0 + ((lenB x : Nat) : Int)) = 0 + ((lenB x : Nat) : Int) := IntWalk.i64_in _ (by omega)
  clear hx g0 g1 g2
  go_enter Try.func103, Try.ntmps103
  generalize hT : Value.string _ = sv
  have hT2 : sv = Value.string lenTab := by rw [← hT]; kernel_rfl
  have wi : ∀ w, (Instr.index 9 sv (.int .u8 (x : Int))).run Try.prog w = .ok (.int .u8 ((lenB x : Nat) : Int)) w := fun w => by rw [hT2]; exact index_tab h9 w
  clear hT hT2
  go_wp2
  go_ret
  exact ⟨ret_int (by omega), rfl⟩
set_option maxRecDepth 20000 in
set_option maxHeartbeats 8000000 in
theorem lenc_1 {x x1 x2 x3 : Nat} (hx : x < 2 ^ 64) (g0 : x < 2 ^ 32) (g1 : x < 2 ^ 16) (g2 : 2 ^ 8 ≤ x) (e2 : x / 2 ^ 8 = x3) (w : World) :
    Calls Try.prog 103 #[.int .u64 (x : Int)] w fun e w' => e = .returned (.int .i64 ((8 + lenB x3 : Nat) : Int)) ∧ w = w' := by
  have f0 : ((4294967296 : Int) ≤ (x : Int)) = False := eq_false (by omega)
  have f1 : ((65536 : Int) ≤ (x : Int)) = False := eq_false (by omega)
  have f2 : ((256 : Int) ≤ (x : Int)) = True := eq_true (by omega)
  have d2 : (x : Int) / 256 = (x3 : Int) := by omega
  have h9 : x3 < 256 := by omega
  have hb := lenB_le (n := 8) (show x3 < 2 ^ 8 by omega)
  have wu : IntKind.u8.wrap (x3 : Int) = (x3 : Int) := by simp [IntKind.wrap, IntKind.signed, IntKind.bits]; omega
  have wn : IntKind.i64.wrap ((lenB x3 : Nat) : Int) = ((lenB x3 : Nat) : Int) := IntWalk.i64_in _ (by omega)
  have wm : IntKind.i64.wrap (8 + ((lenB x3 : Nat) : Int)) = 8 + ((lenB x3 : Nat) : Int) := IntWalk.i64_in _ (by omega)
  clear hx g0 g1 g2 e2
  go_enter Try.func103, Try.ntmps103
  generalize hT : Value.string _ = sv
  have hT2 : sv = Value.string lenTab := by rw [← hT]; kernel_rfl
  have wi : ∀ w, (Instr.index 9 sv (.int .u8 (x3 : Int))).run Try.prog w = .ok (.int .u8 ((lenB x3 : Nat) : Int)) w := fun w => by rw [hT2]; exact index_tab h9 w
  clear hT hT2
  go_wp2
  go_ret
  exact ⟨ret_int (by omega), rfl⟩
set_option maxRecDepth 20000 in
set_option maxHeartbeats 8000000 in
theorem lenc_2 {x x1 x2 x3 : Nat} (hx : x < 2 ^ 64) (g0 : x < 2 ^ 32) (g1 : 2 ^ 16 ≤ x) (e1 : x / 2 ^ 16 = x2) (g2 : x2 < 2 ^ 8) (w : World) :
    Calls Try.prog 103 #[.int .u64 (x : Int)] w fun e w' => e = .returned (.int .i64 ((16 + lenB x2 : Nat) : Int)) ∧ w = w' := by
  have f0 : ((4294967296 : Int) ≤ (x : Int)) = False := eq_false (by omega)
  have f1 : ((65536 : Int) ≤ (x : Int)) = True := eq_true (by omega)
  have d1 : (x : Int) / 65536 = (x2 : Int) := by omega
  have f2 : ((256 : Int) ≤ (x2 : Int)) = False := eq_false (by omega)
  have h9 : x2 < 256 := by omega
  have hb := lenB_le (n := 8) (show x2 < 2 ^ 8 by omega)
  have wu : IntKind.u8.wrap (x2 : Int) = (x2 : Int) := by simp [IntKind.wrap, IntKind.signed, IntKind.bits]; omega
  have wn : IntKind.i64.wrap ((lenB x2 : Nat) : Int) = ((lenB x2 : Nat) : Int) := IntWalk.i64_in _ (by omega)
  have wm : IntKind.i64.wrap (16 + ((lenB x2 : Nat) : Int)) = 16 + ((lenB x2 : Nat) : Int) := IntWalk.i64_in _ (by omega)
  clear hx g0 g1 e1 g2
  go_enter Try.func103, Try.ntmps103
  generalize hT : Value.string _ = sv
  have hT2 : sv = Value.string lenTab := by rw [← hT]; kernel_rfl
  have wi : ∀ w, (Instr.index 9 sv (.int .u8 (x2 : Int))).run Try.prog w = .ok (.int .u8 ((lenB x2 : Nat) : Int)) w := fun w => by rw [hT2]; exact index_tab h9 w
  clear hT hT2
  go_wp2
  go_ret
  exact ⟨ret_int (by omega), rfl⟩
set_option maxRecDepth 20000 in
set_option maxHeartbeats 8000000 in
theorem lenc_3 {x x1 x2 x3 : Nat} (hx : x < 2 ^ 64) (g0 : x < 2 ^ 32) (g1 : 2 ^ 16 ≤ x) (e1 : x / 2 ^ 16 = x2) (g2 : 2 ^ 8 ≤ x2) (e2 : x2 / 2 ^ 8 = x3) (w : World) :
    Calls Try.prog 103 #[.int .u64 (x : Int)] w fun e w' => e = .returned (.int .i64 ((24 + lenB x3 : Nat) : Int)) ∧ w = w' := by
  have f0 : ((4294967296 : Int) ≤ (x : Int)) = False := eq_false (by omega)
  have f1 : ((65536 : Int) ≤ (x : Int)) = True := eq_true (by omega)
  have d1 : (x : Int) / 65536 = (x2 : Int) := by omega
  have f2 : ((256 : Int) ≤ (x2 : Int)) = True := eq_true (by omega)
  have d2 : (x2 : Int) / 256 = (x3 : Int) := by omega
  have h9 : x3 < 256 := by omega
  have hb := lenB_le (n := 8) (show x3 < 2 ^ 8 by omega)
  have wu : IntKind.u8.wrap (x3 : Int) = (x3 : Int) := by simp [IntKind.wrap, IntKind.signed, IntKind.bits]; omega
  have wn : IntKind.i64.wrap ((lenB x3 : Nat) : Int) = ((lenB x3 : Nat) : Int) := IntWalk.i64_in _ (by omega)
  have wm : IntKind.i64.wrap (24 + ((lenB x3 : Nat) : Int)) = 24 + ((lenB x3 : Nat) : Int) := IntWalk.i64_in _ (by omega)
  clear hx g0 g1 e1 g2 e2
  go_enter Try.func103, Try.ntmps103
  generalize hT : Value.string _ = sv
  have hT2 : sv = Value.string lenTab := by rw [← hT]; kernel_rfl
  have wi : ∀ w, (Instr.index 9 sv (.int .u8 (x3 : Int))).run Try.prog w = .ok (.int .u8 ((lenB x3 : Nat) : Int)) w := fun w => by rw [hT2]; exact index_tab h9 w
  clear hT hT2
  go_wp2
  go_ret
  exact ⟨ret_int (by omega), rfl⟩
set_option maxRecDepth 20000 in
set_option maxHeartbeats 8000000 in
theorem lenc_4 {x x1 x2 x3 : Nat} (hx : x < 2 ^ 64) (g0 : 2 ^ 32 ≤ x) (e0 : x / 2 ^ 32 = x1) (g1 : x1 < 2 ^ 16) (g2 : x1 < 2 ^ 8) (w : World) :
    Calls Try.prog 103 #[.int .u64 (x : Int)] w fun e w' => e = .returned (.int .i64 ((32 + lenB x1 : Nat) : Int)) ∧ w = w' := by
  have f0 : ((4294967296 : Int) ≤ (x : Int)) = True := eq_true (by omega)
  have d0 : (x : Int) / 4294967296 = (x1 : Int) := by omega
  have f1 : ((65536 : Int) ≤ (x1 : Int)) = False := eq_false (by omega)
  have f2 : ((256 : Int) ≤ (x1 : Int)) = False := eq_false (by omega)
  have h9 : x1 < 256 := by omega
  have hb := lenB_le (n := 8) (show x1 < 2 ^ 8 by omega)
  have wu : IntKind.u8.wrap (x1 : Int) = (x1 : Int) := by simp [IntKind.wrap, IntKind.signed, IntKind.bits]; omega
  have wn : IntKind.i64.wrap ((lenB x1 : Nat) : Int) = ((lenB x1 : Nat) : Int) := IntWalk.i64_in _ (by omega)
  have wm : IntKind.i64.wrap (32 + ((lenB x1 : Nat) : Int)) = 32 + ((lenB x1 : Nat) : Int) := IntWalk.i64_in _ (by omega)
  clear hx g0 e0 g1 g2
  go_enter Try.func103, Try.ntmps103
  generalize hT : Value.string _ = sv
  have hT2 : sv = Value.string lenTab := by rw [← hT]; kernel_rfl
  have wi : ∀ w, (Instr.index 9 sv (.int .u8 (x1 : Int))).run Try.prog w = .ok (.int .u8 ((lenB x1 : Nat) : Int)) w := fun w => by rw [hT2]; exact index_tab h9 w
  clear hT hT2
  go_wp2
  go_ret
  exact ⟨ret_int (by omega), rfl⟩
set_option maxRecDepth 20000 in
set_option maxHeartbeats 8000000 in
theorem lenc_5 {x x1 x2 x3 : Nat} (hx : x < 2 ^ 64) (g0 : 2 ^ 32 ≤ x) (e0 : x / 2 ^ 32 = x1) (g1 : x1 < 2 ^ 16) (g2 : 2 ^ 8 ≤ x1) (e2 : x1 / 2 ^ 8 = x3) (w : World) :
    Calls Try.prog 103 #[.int .u64 (x : Int)] w fun e w' => e = .returned (.int .i64 ((40 + lenB x3 : Nat) : Int)) ∧ w = w' := by
  have f0 : ((4294967296 : Int) ≤ (x : Int)) = True := eq_true (by omega)
  have d0 : (x : Int) / 4294967296 = (x1 : Int) := by omega
  have f1 : ((65536 : Int) ≤ (x1 : Int)) = False := eq_false (by omega)
  have f2 : ((256 : Int) ≤ (x1 : Int)) = True := eq_true (by omega)
  have d2 : (x1 : Int) / 256 = (x3 : Int) := by omega
  have h9 : x3 < 256 := by omega
  have hb := lenB_le (n := 8) (show x3 < 2 ^ 8 by omega)
  have wu : IntKind.u8.wrap (x3 : Int) = (x3 : Int) := by simp [IntKind.wrap, IntKind.signed, IntKind.bits]; omega
  have wn : IntKind.i64.wrap ((lenB x3 : Nat) : Int) = ((lenB x3 : Nat) : Int) := IntWalk.i64_in _ (by omega)
  have wm : IntKind.i64.wrap (40 + ((lenB x3 : Nat) : Int)) = 40 + ((lenB x3 : Nat) : Int) := IntWalk.i64_in _ (by omega)
  clear hx g0 e0 g1 g2 e2
  go_enter Try.func103, Try.ntmps103
  generalize hT : Value.string _ = sv
  have hT2 : sv = Value.string lenTab := by rw [← hT]; kernel_rfl
  have wi : ∀ w, (Instr.index 9 sv (.int .u8 (x3 : Int))).run Try.prog w = .ok (.int .u8 ((lenB x3 : Nat) : Int)) w := fun w => by rw [hT2]; exact index_tab h9 w
  clear hT hT2
  go_wp2
  go_ret
  exact ⟨ret_int (by omega), rfl⟩
set_option maxRecDepth 20000 in
set_option maxHeartbeats 8000000 in
theorem lenc_6 {x x1 x2 x3 : Nat} (hx : x < 2 ^ 64) (g0 : 2 ^ 32 ≤ x) (e0 : x / 2 ^ 32 = x1) (g1 : 2 ^ 16 ≤ x1) (e1 : x1 / 2 ^ 16 = x2) (g2 : x2 < 2 ^ 8) (w : World) :
    Calls Try.prog 103 #[.int .u64 (x : Int)] w fun e w' => e = .returned (.int .i64 ((48 + lenB x2 : Nat) : Int)) ∧ w = w' := by
  have f0 : ((4294967296 : Int) ≤ (x : Int)) = True := eq_true (by omega)
  have d0 : (x : Int) / 4294967296 = (x1 : Int) := by omega
  have f1 : ((65536 : Int) ≤ (x1 : Int)) = True := eq_true (by omega)
  have d1 : (x1 : Int) / 65536 = (x2 : Int) := by omega
  have f2 : ((256 : Int) ≤ (x2 : Int)) = False := eq_false (by omega)
  have h9 : x2 < 256 := by omega
  have hb := lenB_le (n := 8) (show x2 < 2 ^ 8 by omega)
  have wu : IntKind.u8.wrap (x2 : Int) = (x2 : Int) := by simp [IntKind.wrap, IntKind.signed, IntKind.bits]; omega
  have wn : IntKind.i64.wrap ((lenB x2 : Nat) : Int) = ((lenB x2 : Nat) : Int) := IntWalk.i64_in _ (by omega)
  have wm : IntKind.i64.wrap (48 + ((lenB x2 : Nat) : Int)) = 48 + ((lenB x2 : Nat) : Int) := IntWalk.i64_in _ (by omega)
  clear hx g0 e0 g1 e1 g2
  go_enter Try.func103, Try.ntmps103
  generalize hT : Value.string _ = sv
  have hT2 : sv = Value.string lenTab := by rw [← hT]; kernel_rfl
  have wi : ∀ w, (Instr.index 9 sv (.int .u8 (x2 : Int))).run Try.prog w = .ok (.int .u8 ((lenB x2 : Nat) : Int)) w := fun w => by rw [hT2]; exact index_tab h9 w
  clear hT hT2
  go_wp2
  go_ret
  exact ⟨ret_int (by omega), rfl⟩
set_option maxRecDepth 20000 in
set_option maxHeartbeats 8000000 in
theorem lenc_7 {x x1 x2 x3 : Nat} (hx : x < 2 ^ 64) (g0 : 2 ^ 32 ≤ x) (e0 : x / 2 ^ 32 = x1) (g1 : 2 ^ 16 ≤ x1) (e1 : x1 / 2 ^ 16 = x2) (g2 : 2 ^ 8 ≤ x2) (e2 : x2 / 2 ^ 8 = x3) (w : World) :
    Calls Try.prog 103 #[.int .u64 (x : Int)] w fun e w' => e = .returned (.int .i64 ((56 + lenB x3 : Nat) : Int)) ∧ w = w' := by
  have f0 : ((4294967296 : Int) ≤ (x : Int)) = True := eq_true (by omega)
  have d0 : (x : Int) / 4294967296 = (x1 : Int) := by omega
  have f1 : ((65536 : Int) ≤ (x1 : Int)) = True := eq_true (by omega)
  have d1 : (x1 : Int) / 65536 = (x2 : Int) := by omega
  have f2 : ((256 : Int) ≤ (x2 : Int)) = True := eq_true (by omega)
  have d2 : (x2 : Int) / 256 = (x3 : Int) := by omega
  have h9 : x3 < 256 := by omega
  have hb := lenB_le (n := 8) (show x3 < 2 ^ 8 by omega)
  have wu : IntKind.u8.wrap (x3 : Int) = (x3 : Int) := by simp [IntKind.wrap, IntKind.signed, IntKind.bits]; omega
  have wn : IntKind.i64.wrap ((lenB x3 : Nat) : Int) = ((lenB x3 : Nat) : Int) := IntWalk.i64_in _ (by omega)
  have wm : IntKind.i64.wrap (56 + ((lenB x3 : Nat) : Int)) = 56 + ((lenB x3 : Nat) : Int) := IntWalk.i64_in _ (by omega)
  clear hx g0 e0 g1 e1 g2 e2
  go_enter Try.func103, Try.ntmps103
  generalize hT : Value.string _ = sv
  have hT2 : sv = Value.string lenTab := by rw [← hT]; kernel_rfl
  have wi : ∀ w, (Instr.index 9 sv (.int .u8 (x3 : Int))).run Try.prog w = .ok (.int .u8 ((lenB x3 : Nat) : Int)) w := fun w => by rw [hT2]; exact index_tab h9 w
  clear hT hT2
  go_wp2
  go_ret
  exact ⟨ret_int (by omega), rfl⟩
theorem len64_any {x : Nat} (hx : x < 2 ^ 64) (w : World) :
    Calls Try.prog 103 #[.int .u64 (x : Int)] w fun e w' => e = .returned (.int .i64 ((lenB x : Nat) : Int)) ∧ w = w' := by
  rcases Nat.lt_or_ge x (2 ^ 32) with a | a
  · rcases Nat.lt_or_ge (x) (2 ^ 16) with b | b
    · rcases Nat.lt_or_ge (x) (2 ^ 8) with c | c
      · have := lenc_0 (x := x) (x1 := x) (x2 := x) (x3 := x) hx a b c w
        have e : lenB x = 0 + lenB (x) := by omega
        rw [e]; exact this
      · have := lenc_1 (x := x) (x1 := x) (x2 := x) (x3 := x / 2 ^ 8) hx a b c rfl w
        have e : lenB x = 8 + lenB (x / 2 ^ 8) := by rw [lenB_shift c] <;> omega
        rw [e]; exact this
    · rcases Nat.lt_or_ge (x / 2 ^ 16) (2 ^ 8) with c | c
      · have := lenc_2 (x := x) (x1 := x) (x2 := x / 2 ^ 16) (x3 := x / 2 ^ 16) hx a b rfl c w
        have e : lenB x = 16 + lenB (x / 2 ^ 16) := by rw [lenB_shift b] <;> omega
        rw [e]; exact this
      · have := lenc_3 (x := x) (x1 := x) (x2 := x / 2 ^ 16) (x3 := x / 2 ^ 16 / 2 ^ 8) hx a b rfl c rfl w
        have e : lenB x = 24 + lenB (x / 2 ^ 16 / 2 ^ 8) := by rw [lenB_shift b, lenB_shift c] <;> omega
        rw [e]; exact this
  · rcases Nat.lt_or_ge (x / 2 ^ 32) (2 ^ 16) with b | b
    · rcases Nat.lt_or_ge (x / 2 ^ 32) (2 ^ 8) with c | c
      · have := lenc_4 (x := x) (x1 := x / 2 ^ 32) (x2 := x / 2 ^ 32) (x3 := x / 2 ^ 32) hx a rfl b c w
        have e : lenB x = 32 + lenB (x / 2 ^ 32) := by rw [lenB_shift a] <;> omega
        rw [e]; exact this
      · have := lenc_5 (x := x) (x1 := x / 2 ^ 32) (x2 := x / 2 ^ 32) (x3 := x / 2 ^ 32 / 2 ^ 8) hx a rfl b c rfl w
        have e : lenB x = 40 + lenB (x / 2 ^ 32 / 2 ^ 8) := by rw [lenB_shift a, lenB_shift c] <;> omega
        rw [e]; exact this
    · rcases Nat.lt_or_ge (x / 2 ^ 32 / 2 ^ 16) (2 ^ 8) with c | c
      · have := lenc_6 (x := x) (x1 := x / 2 ^ 32) (x2 := x / 2 ^ 32 / 2 ^ 16) (x3 := x / 2 ^ 32 / 2 ^ 16) hx a rfl b rfl c w
        have e : lenB x = 48 + lenB (x / 2 ^ 32 / 2 ^ 16) := by rw [lenB_shift a, lenB_shift b] <;> omega
        rw [e]; exact this
      · have := lenc_7 (x := x) (x1 := x / 2 ^ 32) (x2 := x / 2 ^ 32 / 2 ^ 16) (x3 := x / 2 ^ 32 / 2 ^ 16 / 2 ^ 8) hx a rfl b rfl c rfl w
        have e : lenB x = 56 + lenB (x / 2 ^ 32 / 2 ^ 16 / 2 ^ 8) := by rw [lenB_shift a, lenB_shift b, lenB_shift c] <;> omega
        rw [e]; exact this
set_option maxRecDepth 20000 in
set_option maxHeartbeats 8000000 in
theorem lz64_any {y : Nat} (hy : 0 < y) (hy2 : y < 2 ^ 64) (w : World) :
    Calls Try.prog 93 #[.int .u64 (y : Int)] w fun e w' => e = .returned (.int .i64 (64 - ((lenB y : Nat) : Int))) ∧ w = w' := by
  have hb := lenB_le hy2
  have ww : IntKind.i64.wrap (64 - ((lenB y : Nat) : Int)) = 64 - ((lenB y : Nat) : Int) := IntWalk.i64_in _ (by omega)
  go_enter Try.func93, Try.ntmps93
  go_wp2_with fail
  refine (len64_any hy2 _).mono ?_
  rintro e w' ⟨rfl, rfl⟩
  go_wp2
  go_ret
  exact ⟨rfl, rfl⟩
end Go.Proofs.Ytglagdmfplgfaaa
