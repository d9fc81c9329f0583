/- The contracts of package shift: WideJam, Jam. -/
import Derived.Test.YthpmbfdbknikcaaShift3
import Derived.Test.YthpmbfdbknikcaaShiftQ
set_option linter.unusedVariables false
set_option linter.unusedSimpArgs false
namespace Go.Proofs.Ythpmbfdbknikcaa
open Go.RowKit

/-- its lowest bit made 1 -/
def oddN (A : Nat) : Nat := A / 2 * 2 + 1
/-- shifted down, and jammed -/
def jamN (A : Nat) (n : Int) : Nat := if lostB A n = true then oddN (rightN A n) else rightN A n
theorem odd_or (a : Nat) : a ||| 1 = oddN a := by
  unfold oddN
  apply Nat.eq_of_testBit_eq
  intro i
  rw [Nat.testBit_or]
  cases i with
  | zero => simp [Nat.testBit_zero]
  | succ i =>
    rw [Nat.testBit_succ, Nat.testBit_succ, Nat.testBit_succ, show (1 : Nat) / 2 = 0 from rfl, Nat.zero_testBit, Bool.or_false]
    congr 1; omega
theorem or_one {x : Int} (hx : U64 x) : bits .or .u64 x 1 = ((oddN x.toNat : Nat) : Int) := by
  rw [or_u64 hx ⟨by omega, by omega⟩]
  show ((x.toNat ||| 1 : Nat) : Int) = _
  rw [odd_or]
theorem odd_limb0 (A : Nat) : bits .or .u64 (limb 0 A) 1 = limb 0 (oddN A) := by
  rw [or_one (limb_u64 _ _)]; unfold oddN limb
  rw [Nat.mul_zero, Nat.pow_zero, Nat.div_one, Nat.div_one, Int.toNat_natCast]
  have e : A % 2 ^ 64 / 2 * 2 + 1 = (A / 2 * 2 + 1) % 2 ^ 64 := by omega
  rw [e]
theorem odd_half (A : Nat) : oddN A / 2 = A / 2 := by unfold oddN; omega
theorem limb_half (A j : Nat) : limb (j + 1) A = ((A / 2 / 2 ^ (63 + 64 * j) % 2 ^ 64 : Nat) : Int) := by
  unfold limb
  rw [Nat.div_div_eq_div_mul, ← Nat.pow_succ', show (63 + 64 * j).succ = 64 * (j + 1) by omega]
theorem odd_limb (A : Nat) (i : Nat) (hi : 0 < i) : limb i A = limb i (oddN A) := by
  obtain ⟨j, rfl⟩ : ∃ j, i = j + 1 := ⟨i - 1, by omega⟩
  rw [limb_half, limb_half, odd_half]
theorem odd_w {A : Nat} (h : W256 A) : W256 (oddN A) := ⟨by have := h.lt; unfold oddN; omega⟩
theorem odd_w2 {A : Nat} (h : W128 A) : W128 (oddN A) := ⟨by have := h.lt; unfold oddN; omega⟩
theorem right_w2 {A : Nat} (hA : W128 A) (n : Int) : W128 (rightN A n) := ⟨Nat.lt_of_le_of_lt (Nat.div_le_self _ _) hA.lt⟩
theorem left_w2 (A : Nat) (n : Int) : W128 (left128 A n) := ⟨Nat.mod_lt _ (by omega)⟩
theorem jam_w {A : Nat} (h : W256 A) (n : Int) : W256 (jamN A n) := by
  unfold jamN; split
  · exact odd_w (right_w h n)
  · exact right_w h n
theorem jam_w2 {A : Nat} (h : W128 A) (n : Int) : W128 (jamN A n) := by
  unfold jamN; split
  · exact odd_w2 (right_w2 h n)
  · exact right_w2 h n
theorem jam_yes {A : Nat} {n : Int} (h : lostB A n = true) : jamN A n = oddN (rightN A n) := if_pos h
theorem jam_no {A : Nat} {n : Int} (h : lostB A n = false) : jamN A n = rightN A n := if_neg (by rw [h]; decide)

set_option maxRecDepth 100000 in
set_option maxHeartbeats 1000000 in
theorem WideJam_yes {A : Nat} (hA : W256 A) (n : Int) (n0 : -9223372036854775808 ≤ n) (n1 : n ≤ 9223372036854775807) (hl : lostB A n = true) (w : World) :
    Calls Try.prog 81 #[wideV A, .int .i64 n] w fun e w' => e = .returned (.agg #[.int .u64 (bits .or .u64 (limb 0 (rightN A n)) 1), .int .u64 (limb 1 (rightN A n)), .int .u64 (limb 2 (rightN A n)), .int .u64 (limb 3 (rightN A n))]) ∧ Below w.heap.size w w' := by
  have hk := Kept.refl w
  have hE := Known.nil w
  go_enter Try.func81, Try.ntmps81
  go_wp2_with (first
    | (go_at_call 73; refine (WideRight_at (IsWide.of hA) n n0 n1 _).mono ?_; rintro e w' ⟨rfl, hb⟩; replace hE : Known _ w' := Known.step hE (by refine Kept.below ?_; repeat (first | exact Kept.refl _ | refine Kept.alloc ?_ _ | refine Kept.drew ?_ | refine Kept.setCell ?_ (by simp) _)) hb; have hR := hE; (simp only [Known, and_true] at hR); replace hk : Kept w.heap.size w w' := Kept.step (by repeat (first | exact hk | refine Kept.alloc ?_ _ | refine Kept.drew ?_ | refine Kept.setCell ?_ (by simp; omega) _)) hb; have hz := hb.size; (try simp only [World.size_alloc] at hz); clear hb)
    | (go_at_call 74; refine (Lost_at (IsWide.of hA) n n0 n1 _).mono ?_; rintro e w' ⟨rfl, hb⟩; replace hE : Known _ w' := Known.step hE (by refine Kept.below ?_; repeat (first | exact Kept.refl _ | refine Kept.alloc ?_ _ | refine Kept.drew ?_ | refine Kept.setCell ?_ (by simp) _)) hb; have hR := hE; (simp only [Known, and_true] at hR); replace hk : Kept w.heap.size w w' := Kept.step (by repeat (first | exact hk | refine Kept.alloc ?_ _ | refine Kept.drew ?_ | refine Kept.setCell ?_ (by simp; omega) _)) hb; have hz := hb.size; (try simp only [World.size_alloc] at hz); clear hb))
  refine bodyPost_ret (v := .agg #[.int .u64 (bits .or .u64 (limb 0 (rightN A n)) 1), .int .u64 (limb 1 (rightN A n)), .int .u64 (limb 2 (rightN A n)), .int .u64 (limb 3 (rightN A n))]) (by simp [results, Try.results81, go_sem, hR]) rfl ⟨rfl, (by refine Kept.below ?_; repeat (first | exact Kept.refl _ | exact hk | refine Kept.alloc ?_ _ | refine Kept.drew ?_ | refine Kept.setCell ?_ (by simp; try omega) _))⟩

set_option maxRecDepth 100000 in
set_option maxHeartbeats 1000000 in
theorem WideJam_no {A : Nat} (hA : W256 A) (n : Int) (n0 : -9223372036854775808 ≤ n) (n1 : n ≤ 9223372036854775807) (hl : lostB A n = false) (w : World) :
    Calls Try.prog 81 #[wideV A, .int .i64 n] w fun e w' => e = .returned (wideV (rightN A n)) ∧ Below w.heap.size w w' := by
  have hk := Kept.refl w
  have hE := Known.nil w
  go_enter Try.func81, Try.ntmps81
  go_wp2_with (first
    | (go_at_call 73; refine (WideRight_at (IsWide.of hA) n n0 n1 _).mono ?_; rintro e w' ⟨rfl, hb⟩; replace hE : Known _ w' := Known.step hE (by refine Kept.below ?_; repeat (first | exact Kept.refl _ | refine Kept.alloc ?_ _ | refine Kept.drew ?_ | refine Kept.setCell ?_ (by simp) _)) hb; have hR := hE; (simp only [Known, and_true] at hR); replace hk : Kept w.heap.size w w' := Kept.step (by repeat (first | exact hk | refine Kept.alloc ?_ _ | refine Kept.drew ?_ | refine Kept.setCell ?_ (by simp; omega) _)) hb; have hz := hb.size; (try simp only [World.size_alloc] at hz); clear hb)
    | (go_at_call 74; refine (Lost_at (IsWide.of hA) n n0 n1 _).mono ?_; rintro e w' ⟨rfl, hb⟩; replace hE : Known _ w' := Known.step hE (by refine Kept.below ?_; repeat (first | exact Kept.refl _ | refine Kept.alloc ?_ _ | refine Kept.drew ?_ | refine Kept.setCell ?_ (by simp) _)) hb; have hR := hE; (simp only [Known, and_true] at hR); replace hk : Kept w.heap.size w w' := Kept.step (by repeat (first | exact hk | refine Kept.alloc ?_ _ | refine Kept.drew ?_ | refine Kept.setCell ?_ (by simp; omega) _)) hb; have hz := hb.size; (try simp only [World.size_alloc] at hz); clear hb))
  refine bodyPost_ret (v := wideV (rightN A n)) (by simp [results, Try.results81, go_sem, hR]) rfl ⟨rfl, (by refine Kept.below ?_; repeat (first | exact Kept.refl _ | exact hk | refine Kept.alloc ?_ _ | refine Kept.drew ?_ | refine Kept.setCell ?_ (by simp; try omega) _))⟩

theorem wide_two {A : Nat} (hA : W128 A) : IsWide (limb 0 A) (limb 1 A) 0 0 A := by
  have := hA.lt
  refine ⟨w128_256 hA, rfl, rfl, ?_, ?_⟩ <;> unfold limb <;> omega
theorem WideJam_at {a0 a1 a2 a3 : Int} {A : Nat} (hA : IsWide a0 a1 a2 a3 A) (n : Int) (n0 : -9223372036854775808 ≤ n) (n1 : n ≤ 9223372036854775807) (w : World) :
    Calls Try.prog 81 #[.agg #[.int .u64 a0, .int .u64 a1, .int .u64 a2, .int .u64 a3], .int .i64 n] w fun e w' => e = .returned (wideV (jamN A n)) ∧ Below w.heap.size w w' := by
  rw [hA.e0, hA.e1, hA.e2, hA.e3]
  cases h : lostB A n with
  | false => rw [jam_no h]; exact WideJam_no hA.w n n0 n1 h w
  | true =>
    rw [jam_yes h]
    refine (WideJam_yes hA.w n n0 n1 h w).mono fun e w' ⟨he, hk⟩ => ⟨?_, hk⟩
    rw [he, odd_limb0, odd_limb _ 1 (by omega), odd_limb _ 2 (by omega), odd_limb _ 3 (by omega)]
end Go.Proofs.Ythpmbfdbknikcaa
