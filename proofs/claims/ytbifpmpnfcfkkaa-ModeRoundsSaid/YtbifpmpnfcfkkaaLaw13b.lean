/- The walk of ModeOrder and ModeRounds: each answers true for every input, and old memory is as it was. -/
import Derived.Test.YtbifpmpnfcfkkaaLaw13
namespace Go.Proofs.Ytbifpmpnfcfkkaa
open Go.RowKit Go.Maps

/-- what rounded answers -/
def roundI (m : Int) (neg : Bool) (n : Int) : Int := n / 8 + (if nextB m neg (n / 8 % 2 == 1) (ofI (decide (4 ≤ n % 8)) (n % 4 != 0)) then 1 else 0)
def farI (a n : Int) : Int := max (8 * a) n - min (8 * a) n

theorem ofI_nonneg (a b : Bool) : 0 ≤ ofI a b := by cases a <;> cases b <;> decide

set_option maxHeartbeats 400000 in
theorem far_any (a n : Int) (h0 : 0 ≤ a) (h1 : a ≤ 268435456) (h2 : 0 ≤ n) (h3 : n ≤ 2147483648) (w : World) :
    Calls Try.prog 16 #[.int .u32 a, .int .u32 n] w fun e w' => e = .returned (.int .u32 (farI a n)) ∧ w = w' := by
  go_enter Try.func16, Try.ntmps16
  go_wp2
  all_goals go_ret
  all_goals exact ⟨ret_int (by unfold farI; omega), rfl⟩

set_option maxHeartbeats 400000 in
theorem rounded_any (m : Int) (neg : Bool) (n : Int) (hm : 0 ≤ m) (h0 : 0 ≤ n) (h1 : n ≤ 1073741824) (w : World) :
    Calls Try.prog 15 #[.int .u8 m, .bool neg, .int .u32 n] w fun e w' => e = .returned (.int .u32 (roundI m neg n)) ∧ Below w.heap.size w w' := by
  have hof := ofI_nonneg (decide (4 ≤ n % 8)) (n % 4 != 0)
  cases hb : nextB m neg (n / 8 % 2 == 1) (ofI (decide (4 ≤ n % 8)) (n % 4 != 0))
  all_goals
    have HB := Lib.hid hb; clear hb
    go_enter Try.func15, Try.ntmps15
    go_wp2_with (first
      | (go_at_call 33; refine (Of_any _ _ _).mono ?_; rintro e w' ⟨rfl, rfl⟩)
      | (go_at_call 18; refine (Calls.known _ HB.out (Next_any _ _ _ _ hm hof _)).mono ?_; rintro e w' ⟨rfl, hk⟩))
    go_ret
    exact ⟨ret_int (by unfold roundI; rw [HB.out]; simp), hk⟩
theorem rr_rest (k : Int) : (k % 8 = 0 ∧ k % 4 = 0) ∨ (k % 8 = 1 ∧ k % 4 = 1) ∨ (k % 8 = 2 ∧ k % 4 = 2) ∨ (k % 8 = 3 ∧ k % 4 = 3) ∨ (k % 8 = 4 ∧ k % 4 = 0) ∨ (k % 8 = 5 ∧ k % 4 = 1) ∨ (k % 8 = 6 ∧ k % 4 = 2) ∨ (k % 8 = 7 ∧ k % 4 = 3) := by omega
theorem rr_none (m : Int) (neg : Bool) (k : Int) (h : k % 8 = 0) : roundI m neg k = k / 8 := by
  have h4 : k % 4 = 0 := by omega
  simp [roundI, nextB, ofI, h, h4]
theorem rr_up (neg : Bool) (k : Int) (h : 0 < k % 8) : roundI (if neg then 3 else 2) neg k = k / 8 + 1 := by
  rcases rr_rest k with ⟨a, b⟩ | ⟨a, b⟩ | ⟨a, b⟩ | ⟨a, b⟩ | ⟨a, b⟩ | ⟨a, b⟩ | ⟨a, b⟩ | ⟨a, b⟩ <;> cases neg <;> simp_all [roundI, nextB, ofI]
theorem rr_down (neg : Bool) (k : Int) : roundI (if neg then 2 else 3) neg k = k / 8 := by
  rcases rr_rest k with ⟨a, b⟩ | ⟨a, b⟩ | ⟨a, b⟩ | ⟨a, b⟩ | ⟨a, b⟩ | ⟨a, b⟩ | ⟨a, b⟩ | ⟨a, b⟩ <;> cases neg <;> simp_all [roundI, nextB, ofI]
theorem rr_zero (neg : Bool) (k : Int) : roundI 4 neg k = k / 8 := by simp [roundI, nextB]
theorem rr_half (neg : Bool) (k : Int) (h : k % 8 = 4) : roundI 0 neg k % 2 = 0 ∧ roundI 1 neg k = k / 8 + 1 := by
  have h4 : k % 4 = 0 := by omega
  refine ⟨?_, by simp [roundI, nextB, ofI, h, h4]⟩
  by_cases hp : k / 8 % 2 = 1
  · simp [roundI, nextB, ofI, h, h4, hp]; omega
  · simp [roundI, nextB, ofI, h, h4, hp]; omega
theorem rr_bd (m : Int) (neg : Bool) (k : Int) (h : 0 < k % 8) : k / 8 ≤ roundI m neg k ∧ roundI m neg k ≤ k / 8 + 1 := by
  unfold roundI; split <;> omega
theorem rr_near (neg : Bool) (k : Int) : farI (roundI 0 neg k) k ≤ 4 := by
  by_cases hp : k / 8 % 2 = 1 <;> rcases rr_rest k with ⟨a, b⟩ | ⟨a, b⟩ | ⟨a, b⟩ | ⟨a, b⟩ | ⟨a, b⟩ | ⟨a, b⟩ | ⟨a, b⟩ | ⟨a, b⟩ <;> simp [roundI, nextB, ofI, farI, a, b, hp] <;> omega
theorem rr_away (neg : Bool) (k : Int) : farI (roundI 1 neg k) k ≤ 4 := by
  rcases rr_rest k with ⟨a, b⟩ | ⟨a, b⟩ | ⟨a, b⟩ | ⟨a, b⟩ | ⟨a, b⟩ | ⟨a, b⟩ | ⟨a, b⟩ | ⟨a, b⟩ <;> simp [roundI, nextB, ofI, farI, a, b] <;> omega

set_option maxHeartbeats 400000 in
theorem ModeRounds_none (n : Int) (neg : Bool) (h0 : 0 ≤ n) (h1 : n ≤ 4294967295) (hr : n % 8 = 0) (w : World) :
    Calls Try.prog 3 #[.int .u32 n, .bool neg] w fun e w' => e = .returned (.bool true) ∧ Below w.heap.size w w' := by
  have hk := Kept.refl w
  have e0 := rr_none 0 neg (n % 1073741824) (by omega)
  have e1 := rr_none 1 neg (n % 1073741824) (by omega)
  have e2 := rr_none 2 neg (n % 1073741824) (by omega)
  have e3 := rr_none 3 neg (n % 1073741824) (by omega)
  have e4 := rr_none 4 neg (n % 1073741824) (by omega)
  have f0 := rr_near neg (n % 1073741824)
  rw [e0] at f0
  cases neg
  all_goals
    go_enter Try.func3, Try.ntmps3
    go_wp2_with (first
      | (go_at_call 15; refine (rounded_any _ _ _ (by omega) (by omega) (by omega) _).mono ?_; rintro e w' ⟨rfl, hb⟩; replace hk := hk.step hb)
      | (go_at_call 16; refine (far_any _ _ (by omega) (by omega) (by omega) (by omega) _).mono ?_; rintro e w' ⟨rfl, rfl⟩)
      | (go_at_call 17; refine (goes13_any _).mono ?_; rintro e w' ⟨rfl, hb⟩; replace hk := hk.step hb))
    go_ret
    exact ⟨rfl, hk.below⟩

set_option maxHeartbeats 400000 in
theorem ModeRounds_half (n : Int) (neg : Bool) (h0 : 0 ≤ n) (h1 : n ≤ 4294967295) (hr : n % 8 = 4) (w : World) :
    Calls Try.prog 3 #[.int .u32 n, .bool neg] w fun e w' => e = .returned (.bool true) ∧ Below w.heap.size w w' := by
  have hk := Kept.refl w
  obtain ⟨e0, e1⟩ := rr_half neg (n % 1073741824) (by omega)
  have e2 := rr_up neg (n % 1073741824) (by omega)
  have e3 := rr_down neg (n % 1073741824)
  have e4 := rr_zero neg (n % 1073741824)
  have f0 := rr_near neg (n % 1073741824)
  have f1 := rr_away neg (n % 1073741824)
  have f2 := rr_bd 0 neg (n % 1073741824) (by omega)
  rw [e1] at f1
  cases neg
  all_goals
    simp only [Bool.false_eq_true, if_false, if_true] at e2 e3
    go_enter Try.func3, Try.ntmps3
    go_wp2_with (first
      | (go_at_call 15; refine (rounded_any _ _ _ (by omega) (by omega) (by omega) _).mono ?_; rintro e w' ⟨rfl, hb⟩; replace hk := hk.step hb)
      | (go_at_call 16; refine (far_any _ _ (by omega) (by omega) (by omega) (by omega) _).mono ?_; rintro e w' ⟨rfl, rfl⟩)
      | (go_at_call 17; refine (goes13_any _).mono ?_; rintro e w' ⟨rfl, hb⟩; replace hk := hk.step hb))
    go_ret
    exact ⟨rfl, hk.below⟩

set_option maxHeartbeats 400000 in
theorem ModeRounds_other (n : Int) (neg : Bool) (h0 : 0 ≤ n) (h1 : n ≤ 4294967295) (hr : 0 < n % 8) (hr4 : n % 8 ≠ 4) (w : World) :
    Calls Try.prog 3 #[.int .u32 n, .bool neg] w fun e w' => e = .returned (.bool true) ∧ Below w.heap.size w w' := by
  have hk := Kept.refl w
  have e2 := rr_up neg (n % 1073741824) (by omega)
  have e3 := rr_down neg (n % 1073741824)
  have e4 := rr_zero neg (n % 1073741824)
  have f0 := rr_near neg (n % 1073741824)
  have f1 := rr_away neg (n % 1073741824)
  have f2 := rr_bd 0 neg (n % 1073741824) (by omega)
  have f3 := rr_bd 1 neg (n % 1073741824) (by omega)
  have hr5 : (n % 8 == 4) = false := beq_eq_false_iff_ne.2 hr4
  clear hr4
  cases neg
  all_goals
    simp only [Bool.false_eq_true, if_false, if_true] at e2 e3
    go_enter Try.func3, Try.ntmps3
    go_wp2_with (first
      | (go_at_call 15; refine (rounded_any _ _ _ (by omega) (by omega) (by omega) _).mono ?_; rintro e w' ⟨rfl, hb⟩; replace hk := hk.step hb)
      | (go_at_call 16; refine (far_any _ _ (by omega) (by omega) (by omega) (by omega) _).mono ?_; rintro e w' ⟨rfl, rfl⟩)
      | (go_at_call 17; refine (goes13_any _).mono ?_; rintro e w' ⟨rfl, hb⟩; replace hk := hk.step hb))
    go_ret
    exact ⟨rfl, hk.below⟩

theorem ModeRounds_walk (n : Int) (neg : Bool) (h0 : 0 ≤ n) (h1 : n ≤ 4294967295) (w : World) :
    Calls Try.prog 3 #[.int .u32 n, .bool neg] w fun e w' => e = .returned (.bool true) ∧ Below w.heap.size w w' := by
  by_cases a : n % 8 = 0
  · exact ModeRounds_none n neg h0 h1 a w
  · by_cases b : n % 8 = 4
    · exact ModeRounds_half n neg h0 h1 b w
    · exact ModeRounds_other n neg h0 h1 (by omega) b w
end Go.Proofs.Ytbifpmpnfcfkkaa
