/- Plain arithmetic of numbers as lists of 32-bit digits, the lowest first. No program is in sight. -/
import Derived.WalkKit
set_option linter.unusedVariables false
set_option linter.unusedSimpArgs false
namespace Go.Proofs.Ythpmbfdbknikcaa

/-- a digit of a number -/
@[irreducible] def dig (i A : Nat) : Nat := A / 2 ^ (32 * i) % 2 ^ 32
def valL : List Nat → Nat
  | [] => 0
  | d :: l => d + 2 ^ 32 * valL l
def DigL (l : List Nat) : Prop := ∀ d ∈ l, d < 2 ^ 32
/-- the digits of a number, none of them a nought at the end -/
@[irreducible] def digs (A : Nat) : List Nat := if h : A = 0 then [] else A % 2 ^ 32 :: digs (A / 2 ^ 32)
termination_by A
decreasing_by exact Nat.div_lt_self (by omega) (by omega)
def lenN (A : Nat) : Nat := (digs A).length

theorem dig_lt (i A : Nat) : dig i A < 2 ^ 32 := by unfold dig; exact Nat.mod_lt _ (by omega)
theorem dig_zero (i : Nat) : dig i 0 = 0 := by unfold dig; simp
theorem dig_succ (i A : Nat) : dig (i + 1) A = dig i (A / 2 ^ 32) := by
  unfold dig; rw [Nat.div_div_eq_div_mul, ← Nat.pow_add]; congr 3; omega
theorem dig_first (A : Nat) : dig 0 A = A % 2 ^ 32 := by unfold dig; simp
theorem digs_zero : digs 0 = [] := by rw [digs]; simp
theorem digs_pos {A : Nat} (h : A ≠ 0) : digs A = A % 2 ^ 32 :: digs (A / 2 ^ 32) := by rw [digs]; simp [h]
theorem lenN_zero : lenN 0 = 0 := by unfold lenN; rw [digs_zero]; rfl
theorem lenN_pos {A : Nat} (h : A ≠ 0) : lenN A = lenN (A / 2 ^ 32) + 1 := by unfold lenN; rw [digs_pos h]; rfl
theorem lenN_eq_zero {A : Nat} : lenN A = 0 ↔ A = 0 := by
  constructor
  · intro h
    rcases Nat.eq_zero_or_pos A with h0 | h0
    · exact h0
    · rw [lenN_pos (by omega)] at h; omega
  · rintro rfl; exact lenN_zero

theorem digs_dig : ∀ {A : Nat}, DigL (digs A) := by
  intro A
  induction A using Nat.strongRecOn with
  | ind A ih =>
    by_cases h : A = 0
    · subst h; rw [digs_zero]; intro d hd; cases hd
    · rw [digs_pos h]
      intro d hd
      rcases List.mem_cons.1 hd with rfl | hd
      · exact Nat.mod_lt _ (by omega)
      · exact ih (A / 2 ^ 32) (Nat.div_lt_self (by omega) (by omega)) d hd
theorem digs_get : ∀ (A i : Nat), (digs A)[i]? = if i < lenN A then some (dig i A) else none := by
  intro A
  induction A using Nat.strongRecOn with
  | ind A ih =>
    intro i
    by_cases h : A = 0
    · subst h; rw [digs_zero, lenN_zero]; simp
    · rw [digs_pos h, lenN_pos h]
      cases i with
      | zero => rw [dig_first]; simp
      | succ i =>
        rw [List.getElem?_cons_succ, ih (A / 2 ^ 32) (Nat.div_lt_self (by omega) (by omega)) i, dig_succ]
        by_cases hi : i < lenN (A / 2 ^ 32)
        · rw [if_pos hi, if_pos (by omega)]
        · rw [if_neg hi, if_neg (by omega)]
theorem digs_at {A i : Nat} (h : i < lenN A) : (digs A)[i]? = some (dig i A) := by rw [digs_get, if_pos h]
theorem lt_lenN : ∀ (A : Nat), A < 2 ^ (32 * lenN A) := by
  intro A
  induction A using Nat.strongRecOn with
  | ind A ih =>
    by_cases h : A = 0
    · subst h; rw [lenN_zero]; simp
    · have := ih (A / 2 ^ 32) (Nat.div_lt_self (by omega) (by omega))
      rw [lenN_pos h, Nat.mul_add, Nat.pow_add, Nat.mul_comm]
      have h2 := (Nat.div_lt_iff_lt_mul (x := A) (y := 2 ^ (32 * lenN (A / 2 ^ 32))) (k := 2 ^ 32) (by omega)).1 this
      rw [Nat.mul_comm] at h2; simpa using h2
theorem lenN_le : ∀ (k A : Nat), A < 2 ^ (32 * k) → lenN A ≤ k := by
  intro k
  induction k with
  | zero => intro A h; have : A = 0 := by simp at h; exact h
            subst this; rw [lenN_zero]; omega
  | succ k ih =>
    intro A h
    by_cases h0 : A = 0
    · subst h0; rw [lenN_zero]; omega
    · rw [lenN_pos h0]
      have := ih (A / 2 ^ 32) (by
        rw [Nat.div_lt_iff_lt_mul (by omega), ← Nat.pow_add]
        exact Nat.lt_of_lt_of_le h (Nat.pow_le_pow_right (by omega) (by omega)))
      omega
theorem lenN_ge {A k : Nat} (h : 2 ^ (32 * k) ≤ A) : k < lenN A := by
  rcases Nat.lt_or_ge k (lenN A) with h1 | h1
  · exact h1
  · have a := lt_lenN A
    have b : 2 ^ (32 * lenN A) ≤ 2 ^ (32 * k) := Nat.pow_le_pow_right (by omega) (by omega)
    omega
theorem lenN_mono {A B : Nat} (h : A ≤ B) : lenN A ≤ lenN B := lenN_le _ _ (Nat.lt_of_le_of_lt h (lt_lenN B))
theorem dig_beyond {A i : Nat} (h : lenN A ≤ i) : dig i A = 0 := by
  unfold dig
  rw [Nat.div_eq_of_lt (Nat.lt_of_lt_of_le (lt_lenN A) (Nat.pow_le_pow_right (by omega) (by omega)))]

theorem valL_digs : ∀ (A : Nat), valL (digs A) = A := by
  intro A
  induction A using Nat.strongRecOn with
  | ind A ih =>
    by_cases h : A = 0
    · subst h; rw [digs_zero]; rfl
    · rw [digs_pos h, valL, ih (A / 2 ^ 32) (Nat.div_lt_self (by omega) (by omega))]
      omega
theorem valL_append : ∀ (l m : List Nat), valL (l ++ m) = valL l + 2 ^ (32 * l.length) * valL m
  | [], m => by simp [valL]
  | d :: l, m => by
    rw [List.cons_append, valL, valL, valL_append l m, List.length_cons, Nat.mul_add, Nat.mul_add, Nat.pow_add, ← Nat.mul_assoc, Nat.mul_comm (2 ^ (32 * l.length)) (2 ^ (32 * 1))]
    simp [Nat.mul_assoc, Nat.add_assoc]
theorem valL_snoc (l : List Nat) (d : Nat) : valL (l ++ [d]) = valL l + d * 2 ^ (32 * l.length) := by
  rw [valL_append, show valL [d] = d by simp [valL], Nat.mul_comm]
theorem valL_lt : ∀ {l : List Nat}, DigL l → valL l < 2 ^ (32 * l.length)
  | [], _ => by simp [valL]
  | d :: l, h => by
    have h1 := valL_lt (l := l) fun x hx => h x (List.mem_cons_of_mem _ hx)
    have h2 := h d List.mem_cons_self
    rw [List.length_cons, valL, Nat.mul_add, Nat.pow_add, show (2 : Nat) ^ (32 * 1) = 2 ^ 32 from rfl]
    generalize 2 ^ (32 * l.length) = p at *
    omega
theorem DigL.snoc {l : List Nat} {d : Nat} (h : DigL l) (hd : d < 2 ^ 32) : DigL (l ++ [d]) := fun x hx => by
  rcases List.mem_append.1 hx with h1 | h1
  · exact h x h1
  · rw [List.mem_singleton.1 h1]; exact hd
theorem DigL.take {l : List Nat} (h : DigL l) (n : Nat) : DigL (l.take n) := fun x hx => h x (List.mem_of_mem_take hx)
theorem DigL.nil : DigL [] := fun x hx => by cases hx

/-- digits with no nought at the end are the number's -/
theorem digs_of : ∀ {l : List Nat}, DigL l → (∀ i d, l[i]? = some d → i + 1 = l.length → d ≠ 0) → digs (valL l) = l
  | [], _, _ => digs_zero
  | d :: l, h, hn => by
    have hd := h d List.mem_cons_self
    have ih := digs_of (l := l) (fun x hx => h x (List.mem_cons_of_mem _ hx)) (fun i e hi hl => hn (i + 1) e (by simpa using hi) (by simp; omega))
    have hne : valL (d :: l) ≠ 0 := by
      cases l with
      | nil =>
        have := hn 0 d rfl rfl
        simp [valL]; exact this
      | cons e l =>
        intro h0
        have hv : valL (e :: l) = 0 := by simp only [valL] at h0 ⊢; omega
        rw [hv, digs_zero] at ih
        cases ih
    rw [digs_pos hne]
    have e1 : valL (d :: l) % 2 ^ 32 = d := by rw [valL]; omega
    have e2 : valL (d :: l) / 2 ^ 32 = valL l := by rw [valL]; omega
    rw [e1, e2, ih]
theorem take_snoc' {l : List Nat} {k : Nat} {d : Nat} (h : l[k]? = some d) : l.take (k + 1) = l.take k ++ [d] := by
  rw [List.take_add_one, h]; rfl
theorem valL_take_drop {l : List Nat} {k : Nat} (h : l[k]? = some 0) : valL (l.take (k + 1)) = valL (l.take k) := by
  rw [take_snoc' h, valL_snoc, Nat.zero_mul, Nat.add_zero]
theorem trim_end {l : List Nat} (hl : DigL l) {k d : Nat} (hk : k < l.length) (hd : l[k]? = some d) (h0 : d ≠ 0) : digs (valL (l.take (k + 1))) = l.take (k + 1) :=
  digs_of (hl.take _) fun i e hi hlen => by
    rw [List.length_take] at hlen
    have : i = k := by omega
    subst this
    rw [List.getElem?_take_of_lt (by omega), hd] at hi
    cases hi; exact h0

/-- a number up to a digit, and that digit -/
theorem mod_dig (A i : Nat) : A % 2 ^ (32 * (i + 1)) = A % 2 ^ (32 * i) + dig i A * 2 ^ (32 * i) := by
  unfold dig
  rw [Nat.mul_add, Nat.pow_add, Nat.mod_mul, Nat.mul_comm (2 ^ (32 * i)), show (2 : Nat) ^ (32 * 1) = 2 ^ 32 from rfl]
theorem mod_len {A k : Nat} (h : lenN A ≤ k) : A % 2 ^ (32 * k) = A :=
  Nat.mod_eq_of_lt (Nat.lt_of_lt_of_le (lt_lenN A) (Nat.pow_le_pow_right (by omega) (by omega)))
theorem dig_eq_of_div (A B i : Nat) (h : A / 2 ^ (32 * i) = B / 2 ^ (32 * i)) : dig i A = dig i B := by unfold dig; rw [h]
theorem div_dig (A i : Nat) : A / 2 ^ (32 * i) = 2 ^ 32 * (A / 2 ^ (32 * (i + 1))) + dig i A := by
  unfold dig
  rw [Nat.mul_add, Nat.pow_add, ← Nat.div_div_eq_div_mul, show (2 : Nat) ^ (32 * 1) = 2 ^ 32 from rfl, Nat.div_add_mod]

/-! sums -/
theorem sum_step32 {A B i V c : Nat} (h : V + c * 2 ^ (32 * i) = A % 2 ^ (32 * i) + B % 2 ^ (32 * i)) :
    V + ((c + dig i A + dig i B) % 2 ^ 32) * 2 ^ (32 * i) + ((c + dig i A + dig i B) / 2 ^ 32) * 2 ^ (32 * (i + 1)) = A % 2 ^ (32 * (i + 1)) + B % 2 ^ (32 * (i + 1)) := by
  rw [mod_dig A, mod_dig B, Nat.mul_add 32 i 1, Nat.pow_add, show (2 : Nat) ^ (32 * 1) = 2 ^ 32 from rfl]
  have e := Nat.div_add_mod (c + dig i A + dig i B) (2 ^ 32)
  generalize (c + dig i A + dig i B) / 2 ^ 32 = q at *
  generalize (c + dig i A + dig i B) % 2 ^ 32 = r at *
  have e2 : (2 ^ 32 * q + r) * 2 ^ (32 * i) = (c + dig i A + dig i B) * 2 ^ (32 * i) := by rw [e]
  rw [Nat.add_mul, Nat.add_mul, Nat.add_mul] at e2
  have e3 : q * (2 ^ (32 * i) * 2 ^ 32) = 2 ^ 32 * q * 2 ^ (32 * i) := by rw [← Nat.mul_assoc, Nat.mul_right_comm, Nat.mul_comm q]
  rw [e3]; omega
theorem sum_carry32 {A B i c : Nat} (hc : c ≤ 1) : (c + dig i A + dig i B) / 2 ^ 32 ≤ 1 := by
  have := dig_lt i A; have := dig_lt i B; omega

/-! differences -/
theorem dif_step32 {A B i V c : Nat} (hc : c ≤ 1) (h : V + B % 2 ^ (32 * i) = A % 2 ^ (32 * i) + c * 2 ^ (32 * i)) :
    V + ((dig i A + 2 ^ 32 - dig i B - c) % 2 ^ 32) * 2 ^ (32 * i) + B % 2 ^ (32 * (i + 1)) = A % 2 ^ (32 * (i + 1)) + (1 - (dig i A + 2 ^ 32 - dig i B - c) / 2 ^ 32) * 2 ^ (32 * (i + 1)) := by
  have hA := dig_lt i A; have hB := dig_lt i B
  rw [mod_dig A, mod_dig B, Nat.mul_add 32 i 1, Nat.pow_add, show (2 : Nat) ^ (32 * 1) = 2 ^ 32 from rfl]
  generalize dig i A = a at *
  generalize dig i B = b at *
  generalize 2 ^ (32 * i) = p at *
  have key : (a + 2 ^ 32 - b - c) % 2 ^ 32 + b + c = a + (1 - (a + 2 ^ 32 - b - c) / 2 ^ 32) * 2 ^ 32 := by
    rcases Nat.lt_or_ge a (b + c) with k | k
    · have e : (a + 2 ^ 32 - b - c) / 2 ^ 32 = 0 := by omega
      rw [e]; omega
    · have e : (a + 2 ^ 32 - b - c) / 2 ^ 32 = 1 := by omega
      rw [e]; omega
  have k2 : ((a + 2 ^ 32 - b - c) % 2 ^ 32 + b + c) * p = (a + (1 - (a + 2 ^ 32 - b - c) / 2 ^ 32) * 2 ^ 32) * p := by rw [key]
  rw [Nat.add_mul, Nat.add_mul, Nat.add_mul, Nat.mul_assoc, Nat.mul_comm (2 ^ 32) p] at k2
  omega
theorem dif_borrow32 {A B i c : Nat} (hc : c ≤ 1) : (dig i A + 2 ^ 32 - dig i B - c) / 2 ^ 32 ≤ 1 := by
  have := dig_lt i A; have := dig_lt i B; omega
end Go.Proofs.Ythpmbfdbknikcaa
