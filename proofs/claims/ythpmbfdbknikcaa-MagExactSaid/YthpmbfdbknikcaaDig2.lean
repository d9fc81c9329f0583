/- Plain arithmetic of the references' numbers: what their loops hold. No program is in sight. -/
import Derived.Test.YthpmbfdbknikcaaDig
set_option linter.unusedVariables false
set_option linter.unusedSimpArgs false
namespace Go.Proofs.Ythpmbfdbknikcaa

/-- the first k digits -/
def digsTo (A k : Nat) : List Nat := (List.range k).map (fun i => dig i A)
theorem digsTo_length (A k : Nat) : (digsTo A k).length = k := by simp [digsTo]
theorem digsTo_zero (A : Nat) : digsTo A 0 = [] := rfl
theorem digsTo_succ (A k : Nat) : digsTo A (k + 1) = digsTo A k ++ [dig k A] := by simp [digsTo, List.range_succ]
theorem digsTo_dig (A k : Nat) : DigL (digsTo A k) := fun d h => by
  unfold digsTo at h
  obtain ⟨i, _, rfl⟩ := List.mem_map.1 h
  exact dig_lt i A
theorem valL_digsTo (A : Nat) : ∀ k, valL (digsTo A k) = A % 2 ^ (32 * k)
  | 0 => by simp [digsTo, valL, Nat.mod_one]
  | k + 1 => by rw [digsTo_succ, valL_snoc, valL_digsTo A k, digsTo_length, mod_dig]

/-! order -/
theorem cmp_dig_lt {A B k : Nat} (h : A / 2 ^ (32 * (k + 1)) = B / 2 ^ (32 * (k + 1))) (hd : dig k A < dig k B) : A < B := by
  rcases Nat.lt_or_ge A B with k1 | k1
  · exact k1
  · have := Nat.div_le_div_right (c := 2 ^ (32 * k)) k1
    rw [div_dig A, div_dig B, h] at this; omega
theorem div_step {A B k : Nat} (h : A / 2 ^ (32 * (k + 1)) = B / 2 ^ (32 * (k + 1))) (hd : dig k A = dig k B) : A / 2 ^ (32 * k) = B / 2 ^ (32 * k) := by
  rw [div_dig A, div_dig B, h, hd]
theorem cmp_len {A B : Nat} (h : lenN A < lenN B) : A < B := by
  rcases Nat.lt_or_ge A B with k1 | k1
  · exact k1
  · have := lenN_mono k1; omega
theorem div_top {A k : Nat} (h : lenN A ≤ k) : A / 2 ^ (32 * k) = 0 :=
  Nat.div_eq_of_lt (Nat.lt_of_lt_of_le (lt_lenN A) (Nat.pow_le_pow_right (by omega) (by omega)))

/-! a digit laid anew -/
theorem valL_set : ∀ {l : List Nat} {j d e : Nat}, l[j]? = some e → valL (l.set j d) + e * 2 ^ (32 * j) = valL l + d * 2 ^ (32 * j)
  | [], j, d, e, h => by simp at h
  | x :: l, 0, d, e, h => by
    obtain rfl : x = e := by simpa using h
    simp only [List.set_cons_zero, valL]; omega
  | x :: l, j + 1, d, e, h => by
    have ih := valL_set (l := l) (j := j) (d := d) (e := e) (by simpa using h)
    simp only [List.set_cons_succ, valL]
    rw [Nat.mul_add, Nat.pow_add, show (2 : Nat) ^ (32 * 1) = 2 ^ 32 from rfl]
    generalize 2 ^ (32 * j) = p at *
    have e1 : e * (p * 2 ^ 32) = 2 ^ 32 * (e * p) := by rw [← Nat.mul_assoc, Nat.mul_comm]
    have e2 : d * (p * 2 ^ 32) = 2 ^ 32 * (d * p) := by rw [← Nat.mul_assoc, Nat.mul_comm]
    rw [e1, e2]; omega
theorem DigL.set {l : List Nat} {j d : Nat} (h : DigL l) (hd : d < 2 ^ 32) : DigL (l.set j d) := fun x hx => by
  rcases List.mem_or_eq_of_mem_set hx with h1 | h1
  · exact h x h1
  · rw [h1]; exact hd
theorem DigL.at {l : List Nat} {j e : Nat} (h : DigL l) (hj : l[j]? = some e) : e < 2 ^ 32 := h e (List.mem_of_getElem? hj)
theorem valL_zeros (n : Nat) : valL (List.replicate n 0) = 0 := by
  induction n with
  | zero => rfl
  | succ n ih => rw [List.replicate_succ, valL, ih]
theorem DigL.zeros (n : Nat) : DigL (List.replicate n 0) := fun x hx => by rw [List.eq_of_mem_replicate hx]; omega

/-! products -/
theorem mul_step32 {A B i k V V' c e : Nat} (h : V + c * 2 ^ (32 * (i + k)) = (A % 2 ^ (32 * i)) * B + dig i A * (B % 2 ^ (32 * k)) * 2 ^ (32 * i))
    (hs : V' + e * 2 ^ (32 * (i + k)) = V + (c + dig i A * dig k B + e) % 2 ^ 32 * 2 ^ (32 * (i + k))) :
    V' + (c + dig i A * dig k B + e) / 2 ^ 32 * 2 ^ (32 * (i + (k + 1))) = (A % 2 ^ (32 * i)) * B + dig i A * (B % 2 ^ (32 * (k + 1))) * 2 ^ (32 * i) := by
  rw [mod_dig B k, show 32 * (i + (k + 1)) = 32 * (i + k) + 32 by omega, Nat.pow_add 2 (32 * (i + k)) 32]
  have e0 : (2 : Nat) ^ (32 * (i + k)) = 2 ^ (32 * k) * 2 ^ (32 * i) := by rw [← Nat.pow_add]; congr 1; omega
  have ed := Nat.div_add_mod (c + dig i A * dig k B + e) (2 ^ 32)
  have e1 : dig i A * (B % 2 ^ (32 * k) + dig k B * 2 ^ (32 * k)) * 2 ^ (32 * i) = dig i A * (B % 2 ^ (32 * k)) * 2 ^ (32 * i) + dig i A * dig k B * 2 ^ (32 * (i + k)) := by
    rw [Nat.mul_add, Nat.add_mul, e0]; congr 1; rw [Nat.mul_assoc, Nat.mul_assoc, Nat.mul_assoc]
  rw [e1, ← Nat.add_assoc, ← h]
  generalize (c + dig i A * dig k B + e) / 2 ^ 32 = q at *
  generalize (c + dig i A * dig k B + e) % 2 ^ 32 = r at *
  generalize dig i A * dig k B = t at *
  generalize 2 ^ (32 * (i + k)) = p at *
  have e2 : (2 ^ 32 * q + r) * p = (c + t + e) * p := by rw [ed]
  rw [Nat.add_mul, Nat.add_mul, Nat.add_mul, Nat.mul_comm (2 ^ 32) q, Nat.mul_assoc q, Nat.mul_comm (2 ^ 32) p] at e2
  omega
theorem mul_carry32 {a b c e : Nat} (ha : a < 2 ^ 32) (hb : b < 2 ^ 32) (hc : c < 2 ^ 32) (he : e < 2 ^ 32) : c + a * b + e < 2 ^ 64 ∧ (c + a * b + e) / 2 ^ 32 < 2 ^ 32 := by
  have h : a * b ≤ (2 ^ 32 - 1) * (2 ^ 32 - 1) := Nat.mul_le_mul (by omega) (by omega)
  have e1 : (2 ^ 32 - 1) * (2 ^ 32 - 1) = 18446744065119617025 := by decide
  rw [e1] at h
  omega
theorem mul_row {A B i : Nat} : (A % 2 ^ (32 * i)) * B + dig i A * B * 2 ^ (32 * i) = (A % 2 ^ (32 * (i + 1))) * B := by
  rw [mod_dig A i, Nat.add_mul, Nat.mul_right_comm]
theorem mul_in_row {A B i k V c : Nat} (h : V + c * 2 ^ (32 * (i + k)) = (A % 2 ^ (32 * i)) * B + dig i A * (B % 2 ^ (32 * k)) * 2 ^ (32 * i)) (hi : i < lenN A) (hc : 0 < c) : i + k < lenN A + lenN B := by
  have h1 : (A % 2 ^ (32 * i)) * B + dig i A * (B % 2 ^ (32 * k)) * 2 ^ (32 * i) ≤ (A % 2 ^ (32 * i)) * B + dig i A * B * 2 ^ (32 * i) :=
    Nat.add_le_add_left (Nat.mul_le_mul_right _ (Nat.mul_le_mul_left _ (Nat.mod_le _ _))) _
  rw [mul_row] at h1
  have h2 : (A % 2 ^ (32 * (i + 1))) * B ≤ A * B := Nat.mul_le_mul_right _ (Nat.mod_le _ _)
  have h3 : 2 ^ (32 * (i + k)) ≤ A * B := by
    have : 1 * 2 ^ (32 * (i + k)) ≤ c * 2 ^ (32 * (i + k)) := Nat.mul_le_mul_right _ hc
    omega
  rcases Nat.lt_or_ge (i + k) (lenN A + lenN B) with g | g
  · exact g
  · have hA := lt_lenN A
    have hB := lt_lenN B
    have h4 : A * B < 2 ^ (32 * (lenN A + lenN B)) := by
      rw [Nat.mul_add, Nat.pow_add]; exact Nat.mul_lt_mul'' hA hB
    have h5 : 2 ^ (32 * (lenN A + lenN B)) ≤ 2 ^ (32 * (i + k)) := Nat.pow_le_pow_right (by omega) (by omega)
    omega

/-! how many bits -/
def lenB (A : Nat) : Nat := if A = 0 then 0 else Nat.log2 A + 1
theorem lenB_eq {A n : Nat} (h0 : 2 ^ n ≤ A) (h1 : A < 2 ^ (n + 1)) : lenB A = n + 1 := by
  have hp := Nat.two_pow_pos n
  unfold lenB
  rw [if_neg (by omega), (Nat.log2_eq_iff (by omega)).2 ⟨h0, h1⟩]
theorem lenB_zero : lenB 0 = 0 := rfl
theorem lenB_spec {A : Nat} (h : A ≠ 0) : 0 < lenB A ∧ 2 ^ (lenB A - 1) ≤ A ∧ A < 2 ^ lenB A := by
  unfold lenB
  rw [if_neg h, Nat.add_sub_cancel]
  exact ⟨by omega, (Nat.log2_eq_iff h).1 rfl⟩
theorem lt_lenB (A : Nat) : A < 2 ^ lenB A := by
  by_cases h : A = 0
  · subst h; simp [lenB_zero]
  · exact (lenB_spec h).2.2
theorem lenB_le {A n : Nat} (h : A < 2 ^ n) : lenB A ≤ n := by
  by_cases h0 : A = 0
  · subst h0; rw [lenB_zero]; omega
  · obtain ⟨a, b, _⟩ := lenB_spec h0
    rcases Nat.lt_or_ge n (lenB A) with g | g
    · have := Nat.pow_le_pow_right (n := 2) (by omega) (show n ≤ lenB A - 1 by omega); omega
    · exact g
theorem lenB_len (A : Nat) : lenB A ≤ 32 * lenN A := lenB_le (lt_lenN A)
/-- the top digit -/
theorem top_dig {A : Nat} (h : A ≠ 0) : dig (lenN A - 1) A = A / 2 ^ (32 * (lenN A - 1)) ∧ 0 < dig (lenN A - 1) A := by
  have hl : 0 < lenN A := by
    rcases Nat.eq_zero_or_pos (lenN A) with g | g
    · exact absurd (lenN_eq_zero.1 g) h
    · exact g
  have h1 := lt_lenN A
  have e : 32 * lenN A = 32 * (lenN A - 1) + 32 := by omega
  have h2 : A / 2 ^ (32 * (lenN A - 1)) < 2 ^ 32 := by
    rw [Nat.div_lt_iff_lt_mul (Nat.two_pow_pos _), ← Nat.pow_add, Nat.add_comm 32, ← e]; exact h1
  have h3 : dig (lenN A - 1) A = A / 2 ^ (32 * (lenN A - 1)) := by unfold dig; exact Nat.mod_eq_of_lt h2
  refine ⟨h3, ?_⟩
  rw [h3]
  rcases Nat.eq_zero_or_pos (A / 2 ^ (32 * (lenN A - 1))) with g | g
  · have h4 : A < 2 ^ (32 * (lenN A - 1)) := (Nat.div_eq_zero_iff_lt (Nat.two_pow_pos _)).1 g
    have := lenN_le _ _ h4; omega
  · exact g
theorem lenB_top {A j : Nat} (h : A ≠ 0) (hj : j < 32) (h0 : 2 ^ 31 ≤ dig (lenN A - 1) A * 2 ^ j) (h1 : dig (lenN A - 1) A * 2 ^ j < 2 ^ 32) : lenB A = 32 * lenN A - j := by
  obtain ⟨e, hpos⟩ := top_dig h
  have hl : 0 < lenN A := by
    rcases Nat.eq_zero_or_pos (lenN A) with g | g
    · exact absurd (lenN_eq_zero.1 g) h
    · exact g
  have a1 : 2 ^ (31 - j) ≤ dig (lenN A - 1) A := by
    have e1 : (2 : Nat) ^ 31 = 2 ^ (31 - j) * 2 ^ j := by rw [← Nat.pow_add]; congr 1; omega
    rw [e1] at h0
    exact Nat.le_of_mul_le_mul_right h0 (Nat.two_pow_pos j)
  have a2 : dig (lenN A - 1) A < 2 ^ (32 - j) := by
    have e1 : (2 : Nat) ^ 32 = 2 ^ (32 - j) * 2 ^ j := by rw [← Nat.pow_add]; congr 1; omega
    rw [e1] at h1
    exact Nat.lt_of_mul_lt_mul_right h1
  rw [e] at a1 a2
  rw [Nat.le_div_iff_mul_le (Nat.two_pow_pos _), ← Nat.pow_add] at a1
  rw [Nat.div_lt_iff_lt_mul (Nat.two_pow_pos _), ← Nat.pow_add] at a2
  have := lenB_eq (A := A) (n := 31 - j + 32 * (lenN A - 1)) a1 (by rw [show 31 - j + 32 * (lenN A - 1) + 1 = 32 - j + 32 * (lenN A - 1) by omega]; exact a2)
  omega

/-! shifts -/
theorem shl_step {A q s i V c : Nat} (h : V + c * 2 ^ (32 * (q + i)) = A % 2 ^ (32 * i) * 2 ^ (32 * q + s)) :
    V + (dig i A * 2 ^ s + c) % 2 ^ 32 * 2 ^ (32 * (q + i)) + (dig i A * 2 ^ s + c) / 2 ^ 32 * 2 ^ (32 * (q + (i + 1))) = A % 2 ^ (32 * (i + 1)) * 2 ^ (32 * q + s) := by
  rw [mod_dig A i, Nat.add_mul, ← h, show 32 * (q + (i + 1)) = 32 * (q + i) + 32 by omega, Nat.pow_add 2 (32 * (q + i)) 32]
  have ed := Nat.div_add_mod (dig i A * 2 ^ s + c) (2 ^ 32)
  have e1 : dig i A * 2 ^ (32 * i) * 2 ^ (32 * q + s) = dig i A * 2 ^ s * 2 ^ (32 * (q + i)) := by
    rw [Nat.mul_assoc, Nat.mul_assoc, ← Nat.pow_add, ← Nat.pow_add]; congr 2; omega
  rw [e1]
  generalize (dig i A * 2 ^ s + c) / 2 ^ 32 = u at *
  generalize (dig i A * 2 ^ s + c) % 2 ^ 32 = r at *
  generalize dig i A * 2 ^ s = t at *
  generalize 2 ^ (32 * (q + i)) = p at *
  have e2 : (2 ^ 32 * u + r) * p = (t + c) * p := by rw [ed]
  rw [Nat.add_mul, Nat.add_mul, Nat.mul_comm (2 ^ 32) u, Nat.mul_assoc u, Nat.mul_comm (2 ^ 32) p] at e2
  omega
theorem shl_carry {d s c : Nat} (hd : d < 2 ^ 32) (hs : s < 32) (hc : c < 2 ^ s) : d * 2 ^ s + c < 2 ^ 63 ∧ (d * 2 ^ s + c) / 2 ^ 32 < 2 ^ s := by
  have h1 : d * 2 ^ s + c < (d + 1) * 2 ^ s := by rw [Nat.add_mul]; omega
  have h2 : (d + 1) * 2 ^ s ≤ 2 ^ 32 * 2 ^ s := Nat.mul_le_mul_right _ (by omega)
  have h3 : (2 : Nat) ^ 32 * 2 ^ s ≤ 2 ^ 32 * 2 ^ 31 := Nat.mul_le_mul_left _ (Nat.pow_le_pow_right (by omega) (by omega))
  refine ⟨by omega, ?_⟩
  rw [Nat.div_lt_iff_lt_mul (by omega), Nat.mul_comm (2 ^ s)]; omega
theorem shl_or {d s c : Nat} (hc : c < 2 ^ s) : c ||| d * 2 ^ s = d * 2 ^ s + c := by
  rw [Nat.or_comm, Nat.mul_comm, ← Nat.two_pow_add_eq_or_of_lt hc]
/-- a digit of what is shifted down, out of two digits -/
theorem shr_dig (A q s j : Nat) (hs : s < 32) : (dig (q + j) A + dig (q + j + 1) A * 2 ^ 32) / 2 ^ s % 2 ^ 32 = dig j (A / 2 ^ (32 * q + s)) := by
  have e : (dig (q + j) A + dig (q + j + 1) A * 2 ^ 32) = A / 2 ^ (32 * (q + j)) % 2 ^ 64 := by
    unfold dig
    rw [show 32 * (q + j + 1) = 32 * (q + j) + 32 by omega, Nat.pow_add, ← Nat.div_div_eq_div_mul]
    generalize A / 2 ^ (32 * (q + j)) = x
    omega
  have e2 : dig j (A / 2 ^ (32 * q + s)) = A / 2 ^ (32 * (q + j)) / 2 ^ s % 2 ^ 32 := by
    unfold dig
    rw [Nat.div_div_eq_div_mul, Nat.div_div_eq_div_mul, ← Nat.pow_add, ← Nat.pow_add, show 32 * q + s + 32 * j = 32 * (q + j) + s by omega]
  rw [e, e2]
  generalize A / 2 ^ (32 * (q + j)) = x
  apply Nat.eq_of_testBit_eq
  intro k
  rw [Nat.testBit_mod_two_pow, Nat.testBit_mod_two_pow, Nat.testBit_div_two_pow, Nat.testBit_div_two_pow, Nat.testBit_mod_two_pow]
  by_cases hk : k < 32
  · rw [decide_eq_true hk, decide_eq_true (show k + s < 64 by omega)]; simp
  · rw [decide_eq_false hk]; simp
theorem shr_or (a b : Nat) (ha : a < 2 ^ 32) : a ||| b * 2 ^ 32 = a + b * 2 ^ 32 := by rw [shl_or ha, Nat.add_comm]
theorem shr_all {A q s m : Nat} (h : lenN A ≤ q + m) : A / 2 ^ (32 * q + s) < 2 ^ (32 * m) := by
  rw [Nat.div_lt_iff_lt_mul (Nat.two_pow_pos _), ← Nat.pow_add]
  exact Nat.lt_of_lt_of_le (lt_lenN A) (Nat.pow_le_pow_right (by omega) (by omega))
theorem cut_eq (A n : Nat) : A - A / 2 ^ n * 2 ^ n = A % 2 ^ n := by
  have := Nat.div_add_mod A (2 ^ n); rw [Nat.mul_comm] at this; omega
end Go.Proofs.Ythpmbfdbknikcaa
