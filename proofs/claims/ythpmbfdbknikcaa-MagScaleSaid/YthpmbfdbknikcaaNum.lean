/- Plain arithmetic of numbers of 64-bit parts: what parts make up, what a part of a number is, what is shifted part by part. No program is in sight. -/
import Derived.WalkKit
set_option linter.unusedVariables false
set_option linter.unusedSimpArgs false
namespace Go.Proofs.Ythpmbfdbknikcaa

/-- part i of a number -/
@[irreducible] def limb (i R : Nat) : Int := ((R / 2 ^ (64 * i) % 2 ^ 64 : Nat) : Int)
def val2 (a0 a1 : Int) : Nat := a0.toNat + a1.toNat * 2 ^ 64
def val4 (a0 a1 a2 a3 : Int) : Nat := a0.toNat + a1.toNat * 2 ^ 64 + a2.toNat * 2 ^ 128 + a3.toNat * 2 ^ 192
/-- a part's range -/
structure U64 (a : Int) : Prop where
  lo : 0 ≤ a
  hi : a < 2 ^ 64

theorem U64.le {a : Int} (h : U64 a) : a ≤ 18446744073709551615 := by have := h.hi; omega
theorem U64.mk' {a : Int} (h0 : 0 ≤ a) (h1 : a ≤ 18446744073709551615) : U64 a := ⟨h0, by omega⟩
theorem limb_u64 (i R : Nat) : U64 (limb i R) := ⟨by unfold limb; omega, by unfold limb; omega⟩
theorem u64_zero : U64 0 := ⟨by omega, by omega⟩

theorem val2_lt {a0 a1 : Int} (h0 : U64 a0) (h1 : U64 a1) : val2 a0 a1 < 2 ^ 128 := by
  have := h0.lo; have := h0.hi; have := h1.lo; have := h1.hi
  unfold val2; omega
theorem val4_lt {a0 a1 a2 a3 : Int} (h0 : U64 a0) (h1 : U64 a1) (h2 : U64 a2) (h3 : U64 a3) : val4 a0 a1 a2 a3 < 2 ^ 256 := by
  have := h0.lo; have := h0.hi; have := h1.lo; have := h1.hi; have := h2.lo; have := h2.hi; have := h3.lo; have := h3.hi
  unfold val4; omega
theorem val4_limb (R : Nat) (h : R < 2 ^ 256) : val4 (limb 0 R) (limb 1 R) (limb 2 R) (limb 3 R) = R := by
  unfold val4 limb; simp only [Int.toNat_natCast]; omega
theorem val2_limb (R : Nat) (h : R < 2 ^ 128) : val2 (limb 0 R) (limb 1 R) = R := by
  unfold val2 limb; simp only [Int.toNat_natCast]; omega
theorem limb0_val4 {a0 a1 a2 a3 : Int} (h0 : U64 a0) (h1 : U64 a1) (h2 : U64 a2) (h3 : U64 a3) : limb 0 (val4 a0 a1 a2 a3) = a0 := by
  have := h0.lo; have := h0.hi; have := h1.lo; have := h1.hi; have := h2.lo; have := h2.hi; have := h3.lo; have := h3.hi
  unfold val4 limb; omega
theorem limb1_val4 {a0 a1 a2 a3 : Int} (h0 : U64 a0) (h1 : U64 a1) (h2 : U64 a2) (h3 : U64 a3) : limb 1 (val4 a0 a1 a2 a3) = a1 := by
  have := h0.lo; have := h0.hi; have := h1.lo; have := h1.hi; have := h2.lo; have := h2.hi; have := h3.lo; have := h3.hi
  unfold val4 limb; omega
theorem limb2_val4 {a0 a1 a2 a3 : Int} (h0 : U64 a0) (h1 : U64 a1) (h2 : U64 a2) (h3 : U64 a3) : limb 2 (val4 a0 a1 a2 a3) = a2 := by
  have := h0.lo; have := h0.hi; have := h1.lo; have := h1.hi; have := h2.lo; have := h2.hi; have := h3.lo; have := h3.hi
  unfold val4 limb; omega
theorem limb3_val4 {a0 a1 a2 a3 : Int} (h0 : U64 a0) (h1 : U64 a1) (h2 : U64 a2) (h3 : U64 a3) : limb 3 (val4 a0 a1 a2 a3) = a3 := by
  have := h0.lo; have := h0.hi; have := h1.lo; have := h1.hi; have := h2.lo; have := h2.hi; have := h3.lo; have := h3.hi
  unfold val4 limb; omega

/-- a part of four (or of two), by its place; 0 beyond -/
def part4 (a0 a1 a2 a3 z : Int) : Int := if z = 0 then a0 else if z = 1 then a1 else if z = 2 then a2 else if z = 3 then a3 else 0
def part2 (a0 a1 z : Int) : Int := if z = 0 then a0 else if z = 1 then a1 else 0
/-- a number shifted up, or down (below 0) -/
def shiftZ (A : Nat) (n : Int) : Nat := if 0 ≤ n then A * 2 ^ n.toNat else A / 2 ^ (-n).toNat
/-- a bit, 0 below the first -/
def bitZ (A : Nat) (z : Int) : Bool := decide (0 ≤ z) && A.testBit z.toNat

theorem bit_shiftZ (A : Nat) (n : Int) (k : Nat) : (shiftZ A n).testBit k = bitZ A (k - n) := by
  unfold shiftZ bitZ
  split
  · rw [Nat.mul_comm, Nat.testBit_two_pow_mul]
    by_cases h : n.toNat ≤ k
    · have h1 : (0 : Int) ≤ k - n := by omega
      have h2 : k - n.toNat = ((k : Int) - n).toNat := by omega
      rw [decide_eq_true h, decide_eq_true h1, h2]
    · have h1 : ¬ (0 : Int) ≤ k - n := by omega
      rw [decide_eq_false h, decide_eq_false h1]; rfl
  · rw [Nat.testBit_div_two_pow]
    have h1 : (0 : Int) ≤ k - n := by omega
    have h2 : k + (-n).toNat = ((k : Int) - n).toNat := by omega
    rw [decide_eq_true h1, h2, Bool.true_and]

theorem bit_limb (i R k : Nat) : (limb i R).toNat.testBit k = (decide (k < 64) && R.testBit (64 * i + k)) := by
  unfold limb
  rw [Int.toNat_natCast, Nat.testBit_mod_two_pow, Nat.testBit_div_two_pow, Nat.add_comm]

theorem wrap_u64_mod (x : Int) : IntKind.u64.wrap x = x % 2 ^ 64 := by
  unfold IntKind.wrap
  simp [IntKind.signed, IntKind.bits]
theorem wrap_u64 {x : Int} (h0 : 0 ≤ x) (h1 : x < 2 ^ 64) : IntKind.u64.wrap x = x := by
  rw [wrap_u64_mod]; omega

theorem or_u64 {x y : Int} (hx : U64 x) (hy : U64 y) : bits .or .u64 x y = ((x.toNat ||| y.toNat : Nat) : Int) := by
  obtain ⟨a, rfl⟩ := Int.eq_ofNat_of_zero_le hx.lo
  obtain ⟨b, rfl⟩ := Int.eq_ofNat_of_zero_le hy.lo
  have ha : a < 2 ^ 64 := by have := hx.hi; omega
  have hb : b < 2 ^ 64 := by have := hy.hi; omega
  have hab : a ||| b < 2 ^ 64 := Nat.or_lt_two_pow ha hb
  have e : (BitVec.ofNat 64 a ||| BitVec.ofNat 64 b).toNat = a ||| b := by
    rw [BitVec.toNat_or, BitVec.toNat_ofNat, BitVec.toNat_ofNat, Nat.mod_eq_of_lt ha, Nat.mod_eq_of_lt hb]
  show IntKind.u64.wrap ((BitVec.ofInt 64 ((a : Nat) : Int) ||| BitVec.ofInt 64 ((b : Nat) : Int)).toNat : Nat) = _
  rw [BitVec.ofInt_natCast, BitVec.ofInt_natCast, e, Int.toNat_natCast, Int.toNat_natCast, wrap_u64 (by omega) (by omega)]

/-- part j of what is shifted, as the code reckons it -/
def movedI (p : Int → Int) (n j : Int) : Int := bits .or .u64 (IntKind.u64.wrap (p (j - n / 64) * 2 ^ (n % 64).toNat)) (p (j - n / 64 - 1) / 2 / 2 ^ (63 - n % 64).toNat)

theorem u64_testBit {x : Int} (h : U64 x) (k : Nat) (hk : 64 ≤ k) : x.toNat.testBit k = false := by
  apply Nat.testBit_lt_two_pow
  have h1 : x.toNat < 2 ^ 64 := by have := h.hi; have := h.lo; omega
  exact Nat.lt_of_lt_of_le h1 (Nat.pow_le_pow_right (by omega) hk)

theorem moved_bits (p : Int → Int) (A : Nat) (n j : Int) (hp : ∀ z, U64 (p z)) (hb : ∀ z (k : Nat), k < 64 → (p z).toNat.testBit k = bitZ A (64 * z + k)) (hj : 0 ≤ j) :
    movedI p n j = limb j.toNat (shiftZ A n) := by
  obtain ⟨s, hs⟩ : ∃ s : Nat, n % 64 = s := ⟨(n % 64).toNat, by omega⟩
  have hs64 : s < 64 := by omega
  unfold movedI
  rw [hs, Int.toNat_natCast, wrap_u64_mod, show (63 - (s : Int)).toNat = 63 - s from by omega]
  obtain ⟨X, hX⟩ : ∃ X : Nat, p (j - n / 64) = X := ⟨(p (j - n / 64)).toNat, by have := (hp (j - n / 64)).lo; omega⟩
  obtain ⟨Y, hY⟩ : ∃ Y : Nat, p (j - n / 64 - 1) = Y := ⟨(p (j - n / 64 - 1)).toNat, by have := (hp (j - n / 64 - 1)).lo; omega⟩
  have bX := hb (j - n / 64)
  have bY := hb (j - n / 64 - 1)
  have uX := hp (j - n / 64)
  have uY := hp (j - n / 64 - 1)
  rw [hX] at bX uX
  rw [hY] at bY uY
  rw [hX, hY]
  have e1 : (X : Int) * 2 ^ s % 2 ^ 64 = ((X * 2 ^ s % 2 ^ 64 : Nat) : Int) := by
    rw [Int.natCast_emod, Int.natCast_mul, Int.natCast_pow]; rfl
  have e2 : (Y : Int) / 2 / 2 ^ (63 - s) = ((Y / 2 ^ (64 - s) : Nat) : Int) := by
    have : 64 - s = (63 - s) + 1 := by omega
    rw [this, Nat.pow_succ', ← Nat.div_div_eq_div_mul, Int.natCast_ediv, Int.natCast_ediv, Int.natCast_pow]; rfl
  have hY64 : Y < 2 ^ 64 := by have := uY.hi; omega
  have hU : X * 2 ^ s % 2 ^ 64 < 2 ^ 64 := Nat.mod_lt _ (by omega)
  have hV : Y / 2 ^ (64 - s) < 2 ^ 64 := Nat.lt_of_le_of_lt (Nat.div_le_self _ _) hY64
  rw [e1, e2, or_u64 ⟨Int.natCast_nonneg _, by omega⟩ ⟨Int.natCast_nonneg _, by omega⟩, Int.toNat_natCast, Int.toNat_natCast]
  have key : X * 2 ^ s % 2 ^ 64 ||| Y / 2 ^ (64 - s) = (limb j.toNat (shiftZ A n)).toNat := by
    apply Nat.eq_of_testBit_eq
    intro k
    rw [bit_limb, bit_shiftZ, Nat.testBit_or, Nat.testBit_mod_two_pow, Nat.mul_comm, Nat.testBit_two_pow_mul, Nat.testBit_div_two_pow]
    have ej : ((64 * j.toNat + k : Nat) : Int) - n = 64 * j + k - n := by omega
    rw [ej]
    by_cases hk : k < 64
    · rw [decide_eq_true hk, Bool.true_and, Bool.true_and]
      by_cases hks : s ≤ k
      · have b1 := bX (k - s) (by omega)
        have b2 := u64_testBit uY (k + (64 - s)) (by omega)
        rw [Int.toNat_natCast] at b1 b2
        rw [decide_eq_true hks, Bool.true_and, b1, b2, Bool.or_false]
        congr 1; omega
      · have b2 := bY (k + (64 - s)) (by omega)
        rw [Int.toNat_natCast] at b2
        rw [decide_eq_false hks, Bool.false_and, Bool.false_or, b2]
        congr 1; omega
    · have b2 := u64_testBit uY (k + (64 - s)) (by omega)
      rw [Int.toNat_natCast] at b2
      rw [decide_eq_false hk, b2]; rfl
  rw [key]
  have := (limb_u64 j.toNat (shiftZ A n)).lo
  omega

theorem part4_u64 {a0 a1 a2 a3 : Int} (h0 : U64 a0) (h1 : U64 a1) (h2 : U64 a2) (h3 : U64 a3) (z : Int) : U64 (part4 a0 a1 a2 a3 z) := by
  unfold part4; repeat' split
  all_goals first | assumption | exact u64_zero
theorem part4_bit {a0 a1 a2 a3 : Int} (h0 : U64 a0) (h1 : U64 a1) (h2 : U64 a2) (h3 : U64 a3) (z : Int) (k : Nat) (hk : k < 64) :
    (part4 a0 a1 a2 a3 z).toNat.testBit k = bitZ (val4 a0 a1 a2 a3) (64 * z + k) := by
  have hb : ∀ i : Nat, i < 4 → (limb i (val4 a0 a1 a2 a3)).toNat.testBit k = bitZ (val4 a0 a1 a2 a3) (64 * (i : Int) + k) := fun i _ => by
    rw [bit_limb, decide_eq_true hk, Bool.true_and]
    unfold bitZ
    rw [decide_eq_true (by omega), Bool.true_and]
    congr 1
  unfold part4
  split
  · subst z; have := hb 0 (by omega); rw [limb0_val4 h0 h1 h2 h3] at this; exact this
  · split
    · subst z; have := hb 1 (by omega); rw [limb1_val4 h0 h1 h2 h3] at this; exact this
    · split
      · subst z; have := hb 2 (by omega); rw [limb2_val4 h0 h1 h2 h3] at this; exact this
      · split
        · subst z; have := hb 3 (by omega); rw [limb3_val4 h0 h1 h2 h3] at this; exact this
        · unfold bitZ
          by_cases hz : 0 ≤ 64 * z + k
          · have hlt : val4 a0 a1 a2 a3 < 2 ^ (64 * z + k).toNat := Nat.lt_of_lt_of_le (val4_lt h0 h1 h2 h3) (Nat.pow_le_pow_right (by omega) (by omega))
            rw [Nat.testBit_lt_two_pow hlt]; simp
          · rw [decide_eq_false hz]; simp
theorem moved4 {a0 a1 a2 a3 : Int} (h0 : U64 a0) (h1 : U64 a1) (h2 : U64 a2) (h3 : U64 a3) (n j : Int) (hj : 0 ≤ j) :
    movedI (part4 a0 a1 a2 a3) n j = limb j.toNat (shiftZ (val4 a0 a1 a2 a3) n) :=
  moved_bits _ _ n j (part4_u64 h0 h1 h2 h3) (part4_bit h0 h1 h2 h3) hj
theorem part2_four (a0 a1 z : Int) : part2 a0 a1 z = part4 a0 a1 0 0 z := by
  unfold part2 part4; repeat' split
  all_goals rfl
theorem val2_four (a0 a1 : Int) : val4 a0 a1 0 0 = val2 a0 a1 := by
  unfold val4 val2
  omega
theorem moved2 {a0 a1 : Int} (h0 : U64 a0) (h1 : U64 a1) (n j : Int) (hj : 0 ≤ j) :
    movedI (part2 a0 a1) n j = limb j.toNat (shiftZ (val2 a0 a1) n) := by
  rw [← val2_four, ← moved4 h0 h1 u64_zero u64_zero n j hj]
  unfold movedI; rw [part2_four, part2_four]
theorem part2_bit {a0 a1 : Int} (h0 : U64 a0) (h1 : U64 a1) (z : Int) (k : Nat) (hk : k < 64) :
    (part2 a0 a1 z).toNat.testBit k = bitZ (val2 a0 a1) (64 * z + k) := by
  rw [← val2_four, ← part4_bit h0 h1 u64_zero u64_zero z k hk, part2_four]
theorem and_one {x : Int} (hx : U64 x) : bits .and .u64 x 1 = x % 2 := by
  obtain ⟨a, rfl⟩ := Int.eq_ofNat_of_zero_le hx.lo
  have ha : a < 2 ^ 64 := by have := hx.hi; omega
  have e : (BitVec.ofNat 64 a &&& BitVec.ofNat 64 1).toNat = a % 2 := by
    rw [BitVec.toNat_and, BitVec.toNat_ofNat, BitVec.toNat_ofNat, Nat.mod_eq_of_lt ha, Nat.mod_eq_of_lt (by omega), Nat.and_one_is_mod]
  show IntKind.u64.wrap ((BitVec.ofInt 64 ((a : Nat) : Int) &&& BitVec.ofInt 64 ((1 : Nat) : Int)).toNat : Nat) = _
  rw [BitVec.ofInt_natCast, BitVec.ofInt_natCast, e, wrap_u64 (by omega) (by omega)]
  omega
theorem bit_and {x : Int} (hx : U64 x) (k : Nat) : (bits .and .u64 (x / 2 ^ k) 1 == 1) = x.toNat.testBit k := by
  obtain ⟨a, rfl⟩ := Int.eq_ofNat_of_zero_le hx.lo
  have ha : a < 2 ^ 64 := by have := hx.hi; omega
  have e : (a : Int) / 2 ^ k = ((a / 2 ^ k : Nat) : Int) := by rw [Int.natCast_ediv, Int.natCast_pow]; rfl
  have hle : a / 2 ^ k ≤ a := Nat.div_le_self _ _
  rw [e, and_one ⟨Int.natCast_nonneg _, by omega⟩, Int.toNat_natCast, Nat.testBit_eq_decide_div_mod_eq, Bool.eq_iff_iff, beq_iff_eq, decide_eq_true_iff]
  omega

/-- a product of two parts (under a name: the walk stumbles over 'toNat') -/
@[irreducible] def mulI (x y : Int) : Nat := x.toNat * y.toNat
/-- 128 bits, and 256, as values -/
abbrev bitsV (R : Nat) : Value := .agg #[.int .u64 (limb 1 R), .int .u64 (limb 0 R)]
abbrev wideV (R : Nat) : Value := .agg #[.int .u64 (limb 0 R), .int .u64 (limb 1 R), .int .u64 (limb 2 R), .int .u64 (limb 3 R)]

/-- sums and differences in 128 bits, and in 256 -/
def add128 (A B : Nat) : Nat := (A + B) % 2 ^ 128
def sub128 (A B : Nat) : Nat := (A + 2 ^ 128 - B) % 2 ^ 128
def carry128 (A B : Nat) : Bool := decide (2 ^ 128 ≤ A + B)
def add256 (A B : Nat) : Nat := (A + B) % 2 ^ 256
def sub256 (A B : Nat) : Nat := (A + 2 ^ 256 - B) % 2 ^ 256
def carry256 (A B : Nat) : Bool := decide (2 ^ 256 ≤ A + B)
def ltB (x y : Nat) : Bool := decide (x < y)
def zeroB (x : Nat) : Bool := decide (x = 0)
/-- the order of two numbers, as -1, 0, 1 -/
def cmpI (x y : Int) : Int := if x < y then -1 else if y < x then 1 else 0
def cmpN (A B : Nat) : Int := cmpI A B
/-- a number that fits 128 bits, or 256 -/
structure W128 (A : Nat) : Prop where
  lt : A < 2 ^ 128
structure W256 (A : Nat) : Prop where
  lt : A < 2 ^ 256
theorem add128_w (A B : Nat) : W128 (add128 A B) := ⟨Nat.mod_lt _ (by omega)⟩
theorem sub128_w (A B : Nat) : W128 (sub128 A B) := ⟨Nat.mod_lt _ (by omega)⟩
theorem add256_w (A B : Nat) : W256 (add256 A B) := ⟨Nat.mod_lt _ (by omega)⟩
theorem sub256_w (A B : Nat) : W256 (sub256 A B) := ⟨Nat.mod_lt _ (by omega)⟩
theorem w128_256 {A : Nat} (h : W128 A) : W256 A := ⟨by have := h.lt; omega⟩
theorem limb_mod128 (i R : Nat) (h : i < 2) : limb i (R % 2 ^ 128) = limb i R := by
  have : i = 0 ∨ i = 1 := by omega
  rcases this with rfl | rfl <;> unfold limb <;> omega
theorem limb_mod256 (i R : Nat) (h : i < 4) : limb i (R % 2 ^ 256) = limb i R := by
  have : i = 0 ∨ i = 1 ∨ i = 2 ∨ i = 3 := by omega
  rcases this with rfl | rfl | rfl | rfl <;> unfold limb <;> omega
/-- two parts, or four, make up a number -/
structure IsBits (a1 a0 : Int) (A : Nat) : Prop where
  w : W128 A
  hi : a1 = limb 1 A
  lo : a0 = limb 0 A
structure IsWide (a0 a1 a2 a3 : Int) (A : Nat) : Prop where
  w : W256 A
  e0 : a0 = limb 0 A
  e1 : a1 = limb 1 A
  e2 : a2 = limb 2 A
  e3 : a3 = limb 3 A
theorem IsBits.of {A : Nat} (h : W128 A) : IsBits (limb 1 A) (limb 0 A) A := ⟨h, rfl, rfl⟩
theorem IsBits.of' {A : Nat} {x : Int} (e : limb 1 A = x) (h : W128 A) : IsBits x (limb 0 A) A := ⟨h, e.symm, rfl⟩
theorem IsWide.of {A : Nat} (h : W256 A) : IsWide (limb 0 A) (limb 1 A) (limb 2 A) (limb 3 A) A := ⟨h, rfl, rfl, rfl, rfl⟩
theorem IsBits.val {a1 a0 : Int} (h1 : U64 a1) (h0 : U64 a0) : IsBits a1 a0 (val2 a0 a1) := by
  refine ⟨⟨val2_lt h0 h1⟩, ?_, ?_⟩
  · rw [← val2_four, limb1_val4 h0 h1 u64_zero u64_zero]
  · rw [← val2_four, limb0_val4 h0 h1 u64_zero u64_zero]
theorem IsWide.val {a0 a1 a2 a3 : Int} (h0 : U64 a0) (h1 : U64 a1) (h2 : U64 a2) (h3 : U64 a3) : IsWide a0 a1 a2 a3 (val4 a0 a1 a2 a3) :=
  ⟨⟨val4_lt h0 h1 h2 h3⟩, (limb0_val4 h0 h1 h2 h3).symm, (limb1_val4 h0 h1 h2 h3).symm, (limb2_val4 h0 h1 h2 h3).symm, (limb3_val4 h0 h1 h2 h3).symm⟩
theorem IsBits.u1 {a1 a0 : Int} {A : Nat} (h : IsBits a1 a0 A) : U64 a1 := h.hi ▸ limb_u64 _ _
theorem IsBits.u0 {a1 a0 : Int} {A : Nat} (h : IsBits a1 a0 A) : U64 a0 := h.lo ▸ limb_u64 _ _
theorem IsBits.v {a1 a0 : Int} {A : Nat} (h : IsBits a1 a0 A) : val2 a0 a1 = A := by rw [h.hi, h.lo, val2_limb A h.w.lt]
theorem IsWide.u {a0 a1 a2 a3 : Int} {A : Nat} (h : IsWide a0 a1 a2 a3 A) : U64 a0 ∧ U64 a1 ∧ U64 a2 ∧ U64 a3 :=
  ⟨h.e0 ▸ limb_u64 _ _, h.e1 ▸ limb_u64 _ _, h.e2 ▸ limb_u64 _ _, h.e3 ▸ limb_u64 _ _⟩
theorem IsWide.v {a0 a1 a2 a3 : Int} {A : Nat} (h : IsWide a0 a1 a2 a3 A) : val4 a0 a1 a2 a3 = A := by rw [h.e0, h.e1, h.e2, h.e3, val4_limb A h.w.lt]
theorem moved4_at {a0 a1 a2 a3 : Int} (h0 : U64 a0) (h1 : U64 a1) (h2 : U64 a2) (h3 : U64 a3) {n q : Int} (j s : Nat) (hq : q = j - n / 64) (hs : n % 64 = s) (_hs64 : s < 64) :
    bits .or .u64 (IntKind.u64.wrap (part4 a0 a1 a2 a3 q * 2 ^ s)) (part4 a0 a1 a2 a3 (q - 1) / 2 / 2 ^ (63 - s)) = limb j (shiftZ (val4 a0 a1 a2 a3) n) := by
  have e := moved4 h0 h1 h2 h3 n (j : Int) (by omega)
  unfold movedI at e
  rw [hs, Int.toNat_natCast, show (63 - (s : Int)).toNat = 63 - s from by omega, ← hq, Int.toNat_natCast] at e
  exact e
theorem moved2_at {a0 a1 : Int} (h0 : U64 a0) (h1 : U64 a1) {n q : Int} (j s : Nat) (hq : q = j - n / 64) (hs : n % 64 = s) (_hs64 : s < 64) :
    bits .or .u64 (IntKind.u64.wrap (part2 a0 a1 q * 2 ^ s)) (part2 a0 a1 (q - 1) / 2 / 2 ^ (63 - s)) = limb j (shiftZ (val2 a0 a1) n) := by
  have e := moved2 h0 h1 n (j : Int) (by omega)
  unfold movedI at e
  rw [hs, Int.toNat_natCast, show (63 - (s : Int)).toNat = 63 - s from by omega, ← hq, Int.toNat_natCast] at e
  exact e
theorem shiftZ_far {A : Nat} (m : Nat) (hA : A < 2 ^ (64 * m)) {n : Int} (hn : n ≤ -(64 * m)) : shiftZ A n = 0 := by
  unfold shiftZ
  by_cases h : 0 ≤ n
  · have hm : m = 0 := by omega
    subst hm
    have : A = 0 := by simp at hA; exact hA
    subst this; simp
  · rw [if_neg h]
    exact Nat.div_eq_of_lt (Nat.lt_of_lt_of_le hA (Nat.pow_le_pow_right (by omega) (by omega)))
theorem limb_far {A : Nat} (m i : Nat) (hi : i < m) {n : Int} (hn : 64 * m ≤ n) : limb i (shiftZ A n) = 0 := by
  unfold shiftZ limb
  rw [if_pos (by omega)]
  obtain ⟨k, e⟩ : ∃ k, n.toNat = 64 * i + 64 + k := ⟨n.toNat - 64 * i - 64, by omega⟩
  have e2 : A * 2 ^ n.toNat = 2 ^ (64 * i) * (2 ^ 64 * (A * 2 ^ k)) := by
    rw [e, Nat.pow_add, Nat.pow_add]
    generalize 2 ^ (64 * i) = x; generalize 2 ^ 64 = y; generalize 2 ^ k = z
    ac_rfl
  rw [e2, Nat.mul_div_cancel_left _ (Nat.two_pow_pos _), Nat.mul_mod_right]; rfl
theorem wrap_i64_small (s : Nat) (h : s < 64) : IntKind.i64.wrap (s : Int) = s := by
  have h1 : (s : Int) % 2 ^ 64 = s := by omega
  unfold IntKind.wrap
  simp only [IntKind.bits, h1]
  rw [if_neg (by simp [IntKind.signed]; omega)]
theorem and63 (n : Int) : bits .and .i64 n 63 = n % 64 := by
  obtain ⟨s, hs⟩ : ∃ s : Nat, n % 64 = s := ⟨(n % 64).toNat, by omega⟩
  have e : (BitVec.ofInt 64 n &&& BitVec.ofNat 64 63).toNat = s := by
    rw [BitVec.toNat_and, BitVec.toNat_ofNat, BitVec.toNat_ofInt, show (63 % 2 ^ 64 : Nat) = 2 ^ 6 - 1 from rfl, Nat.and_two_pow_sub_one_eq_mod]
    omega
  show IntKind.i64.wrap ((BitVec.ofInt 64 n &&& BitVec.ofInt 64 ((63 : Nat) : Int)).toNat : Nat) = _
  rw [BitVec.ofInt_natCast, e, wrap_i64_small s (by omega), hs]
end Go.Proofs.Ythpmbfdbknikcaa
