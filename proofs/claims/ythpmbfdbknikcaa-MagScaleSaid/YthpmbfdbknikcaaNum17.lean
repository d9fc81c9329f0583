/- Plain arithmetic of sizes: how two of them compare, what their sum and their difference are. No program is in sight. -/
import Derived.Test.YthpmbfdbknikcaaNum3
set_option linter.unusedVariables false
set_option linter.unusedSimpArgs false
namespace Go.Proofs.Ythpmbfdbknikcaa

/-- an exponent, as far as it goes -/
def expI (e : Int) : Int := if e < -1099511627776 then -1099511627776 else if 1099511627776 < e then 1099511627776 else e
theorem expI_range (e : Int) : -1099511627776 ≤ expI e ∧ expI e ≤ 1099511627776 := by unfold expI; split <;> (try split) <;> omega
theorem expI_id {e : Int} (h0 : -1099511627776 ≤ e) (h1 : e ≤ 1099511627776) : expI e = e := by unfold expI; rw [if_neg (by omega), if_neg (by omega)]
def maxI (x y : Int) : Int := if x < y then y else x
/-- the exponent of two terms: the greater one of those that are not 0 (x, y: as far as they go) -/
def levelI (x : Int) (A : Nat) (y : Int) (B : Nat) : Int := if A = 0 ∧ B ≠ 0 then y else if B = 0 ∧ A ≠ 0 then x else maxI x y
def sideI (x : Int) (A : Nat) (at_ : Int) : Nat := jamN A (at_ - x)
def cmpT (x : Int) (A : Nat) (y : Int) (B : Nat) : Int :=
  if cmpN (rightN A (maxI x y - x)) (rightN B (maxI x y - y)) = 0 ∧ lostB A (maxI x y - x) = true then 1
  else if cmpN (rightN A (maxI x y - x)) (rightN B (maxI x y - y)) = 0 ∧ lostB B (maxI x y - y) = true then -1
  else cmpN (rightN A (maxI x y - x)) (rightN B (maxI x y - y))

theorem cmp_scale (X Y : Nat) {p : Nat} (hp : 0 < p) : cmpN (X * p) (Y * p) = cmpN X Y := by
  rcases Nat.lt_trichotomy X Y with h | h | h
  · rw [cmp_lt h, cmp_lt (Nat.mul_lt_mul_of_pos_right h hp)]
  · subst h; rw [cmp_eq, cmp_eq]
  · rw [cmp_gt h, cmp_gt (Nat.mul_lt_mul_of_pos_right h hp)]
theorem cmp_turn (X Y : Nat) : cmpN Y X = - cmpN X Y := by
  rcases Nat.lt_trichotomy X Y with h | h | h
  · rw [cmp_lt h, cmp_gt h]; rfl
  · subst h; rw [cmp_eq]; rfl
  · rw [cmp_gt h, cmp_lt h]
theorem cmp_floor (A B n : Nat) :
    (if cmpN (A / 2 ^ n) B = 0 ∧ lostB A (n : Int) = true then (1 : Int) else cmpN (A / 2 ^ n) B) = cmpN A (B * 2 ^ n) := by
  have hp := Nat.two_pow_pos n
  have e := Nat.div_add_mod A (2 ^ n)
  have hm := Nat.mod_lt A hp
  have hl : lostB A (n : Int) = decide (A % 2 ^ n ≠ 0) := by unfold lostB; rw [Int.toNat_natCast]
  simp only [hl, decide_eq_true_eq]
  rw [Nat.mul_comm] at e
  generalize A / 2 ^ n = q at *
  generalize A % 2 ^ n = r at *
  generalize 2 ^ n = p at *
  rcases Nat.lt_trichotomy q B with h | h | h
  · have : (q + 1) * p ≤ B * p := Nat.mul_le_mul_right p h
    rw [Nat.add_mul] at this
    rw [cmp_lt h, cmp_lt (show A < B * p by omega), if_neg (by omega)]
  · subst h
    rw [cmp_eq]
    by_cases hr : r = 0
    · rw [if_neg (by simp [hr]), show A = q * p by omega, cmp_eq]
    · rw [if_pos ⟨rfl, hr⟩, cmp_gt (show q * p < A by omega)]
  · have : (B + 1) * p ≤ q * p := Nat.mul_le_mul_right p h
    rw [Nat.add_mul] at this
    rw [cmp_gt h, cmp_gt (show B * p < A by omega), if_neg (by omega)]

theorem cmpT_le {x y : Int} (h : x ≤ y) (A B : Nat) : cmpT x A y B = cmpN A (B * 2 ^ (y - x).toNat) := by
  obtain ⟨n, hn⟩ : ∃ n : Nat, y - x = n := ⟨(y - x).toNat, by omega⟩
  have hm : maxI x y = y := by unfold maxI; split <;> omega
  unfold cmpT
  rw [hm, Int.sub_self, lost_zero B (Int.le_refl 0), right_zero B (Int.le_refl 0), hn]
  have := cmp_floor A B n
  unfold rightN
  rw [Int.toNat_natCast, ← this]
  simp only [Bool.false_eq_true, and_false, if_false]
theorem cmpT_turn (x y : Int) (A B : Nat) : cmpT y B x A = - cmpT x A y B := by
  have hm : maxI y x = maxI x y := by unfold maxI; split <;> split <;> omega
  unfold cmpT
  rw [hm]
  have hc := cmp_turn (rightN A (maxI x y - x)) (rightN B (maxI x y - y))
  have hl : lostB A (maxI x y - x) = false ∨ lostB B (maxI x y - y) = false := by
    rcases Int.le_total x y with h | h
    · right; exact lost_zero _ (by unfold maxI; split <;> omega)
    · left; exact lost_zero _ (by unfold maxI; split <;> omega)
  generalize cmpN (rightN A (maxI x y - x)) (rightN B (maxI x y - y)) = c at *
  generalize cmpN (rightN B (maxI x y - y)) (rightN A (maxI x y - x)) = d at *
  subst hc
  generalize lostB A (maxI x y - x) = la at *
  generalize lostB B (maxI x y - y) = lb at *
  rcases hl with rfl | rfl
  · cases lb
    · simp
    · by_cases h0 : c = 0 <;> simp [h0]
  · cases la
    · simp
    · by_cases h0 : c = 0 <;> simp [h0]
theorem cmpT_spec (x y : Int) (A B : Nat) (L : Int) (hx : L ≤ x) (hy : L ≤ y) : cmpT x A y B = cmpN (A * 2 ^ (x - L).toNat) (B * 2 ^ (y - L).toNat) := by
  rcases Int.le_total x y with h | h
  · rw [cmpT_le h, ← cmp_scale A _ (Nat.two_pow_pos (x - L).toNat), Nat.mul_assoc, ← pow_two_split (by omega) (by omega), show y - x + (x - L) = y - L by omega]
  · have := cmpT_turn y x B A
    rw [this, cmpT_le h, ← cmp_scale B _ (Nat.two_pow_pos (y - L).toNat), Nat.mul_assoc, ← pow_two_split (by omega) (by omega), show x - y + (y - L) = x - L by omega, ← cmp_turn]
theorem cmpT_self (x : Int) (A : Nat) : cmpT x A x A = 0 := by
  have := cmpT_turn x x A A; omega
theorem cmpT_range (x y : Int) (A B : Nat) : -1 ≤ cmpT x A y B ∧ cmpT x A y B ≤ 1 := by
  rw [cmpT_spec x y A B (if x ≤ y then x else y) (by split <;> omega) (by split <;> omega)]
  unfold cmpN cmpI; split <;> (try split) <;> omega
theorem cmpT_trans {x y z : Int} {A B C : Nat} (h1 : cmpT x A y B ≤ 0) (h2 : cmpT y B z C ≤ 0) : cmpT x A z C ≤ 0 := by
  obtain ⟨L, lx, ly, lz⟩ : ∃ L : Int, L ≤ x ∧ L ≤ y ∧ L ≤ z := ⟨min x (min y z), by omega, by omega, by omega⟩
  rw [cmpT_spec _ _ _ _ L lx ly, cmp_le] at h1
  rw [cmpT_spec _ _ _ _ L ly lz, cmp_le] at h2
  rw [cmpT_spec _ _ _ _ L lx lz, cmp_le]
  exact Nat.le_trans h1 h2

theorem maxI_turn (x y : Int) : maxI y x = maxI x y := by unfold maxI; split <;> split <;> omega
theorem level_turn (x y : Int) (A B : Nat) : levelI y B x A = levelI x A y B := by
  unfold levelI
  rw [maxI_turn]
  by_cases hA : A = 0 <;> by_cases hB : B = 0 <;> simp [hA, hB]
theorem maxI_range {x y l h : Int} (a : l ≤ x ∧ x ≤ h) (b : l ≤ y ∧ y ≤ h) : l ≤ maxI x y ∧ maxI x y ≤ h := by unfold maxI; split <;> omega
theorem level_range {x y l h : Int} (A B : Nat) (a : l ≤ x ∧ x ≤ h) (b : l ≤ y ∧ y ≤ h) : l ≤ levelI x A y B ∧ levelI x A y B ≤ h := by
  unfold levelI; split
  · exact b
  · split
    · exact a
    · exact maxI_range a b
/-- terms that compare alike are the same, at their level -/
theorem cmpT_zero {x y : Int} {A B : Nat} (h : cmpT x A y B = 0) : sideI x A (levelI x A y B) = sideI y B (levelI x A y B) := by
  have key : ∀ (x y : Int) (A B : Nat), x ≤ y → cmpT x A y B = 0 → sideI x A (levelI x A y B) = sideI y B (levelI x A y B) := by
    intro x y A B hxy h
    rw [cmpT_le hxy] at h
    have e : A = B * 2 ^ (y - x).toNat := by
      rcases Nat.lt_trichotomy A (B * 2 ^ (y - x).toNat) with k | k | k
      · rw [cmp_lt k] at h; omega
      · exact k
      · rw [cmp_gt k] at h; omega
    have hp := Nat.two_pow_pos (y - x).toNat
    have hlv : levelI x A y B = y := by
      have hm : maxI x y = y := by unfold maxI; split <;> omega
      unfold levelI
      rw [hm]
      by_cases hB : B = 0
      · have hA : A = 0 := by rw [e, hB, Nat.zero_mul]
        simp [hA, hB]
      · have hA : A ≠ 0 := by rw [e]; exact Nat.mul_ne_zero hB (by omega)
        simp [hA, hB]
    rw [hlv]
    unfold sideI
    rw [Int.sub_self, jam_zero B (Int.le_refl 0), jam_no]
    · unfold rightN; rw [e, Nat.mul_div_cancel _ hp]
    · unfold lostB; rw [e, Nat.mul_mod_left]; rfl
  rcases Int.le_total x y with hxy | hxy
  · exact key x y A B hxy h
  · have := key y x B A hxy (by rw [cmpT_turn]; omega)
    rw [level_turn] at this
    exact this.symm
theorem side_w {A : Nat} (h : W256 A) (x at_ : Int) : W256 (sideI x A at_) := jam_w h _
theorem sub_self256 {A : Nat} (_h : W256 A) : sub256 A A = 0 := by unfold sub256; omega

/-! both exponents so much greater -/
theorem maxI_add (x y b : Int) : maxI (x + b) (y + b) = maxI x y + b := by unfold maxI; split <;> split <;> omega
theorem level_add (x y b : Int) (A B : Nat) : levelI (x + b) A (y + b) B = levelI x A y B + b := by
  unfold levelI; rw [maxI_add]; split
  · rfl
  · split <;> rfl
theorem side_add (x at_ b : Int) (A : Nat) : sideI (x + b) A (at_ + b) = sideI x A at_ := by unfold sideI; congr 1; omega
theorem cmpT_add (x y b : Int) (A B : Nat) : cmpT (x + b) A (y + b) B = cmpT x A y B := by
  rw [cmpT_spec (x + b) (y + b) A B ((if x ≤ y then x else y) + b) (by split <;> omega) (by split <;> omega), cmpT_spec x y A B (if x ≤ y then x else y) (by split <;> omega) (by split <;> omega)]
  congr 3 <;> congr 1 <;> omega
end Go.Proofs.Ythpmbfdbknikcaa
