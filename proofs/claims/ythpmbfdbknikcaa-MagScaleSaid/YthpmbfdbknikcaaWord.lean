/- The contracts of package word: each answers what its Lean function says, and old memory is as it was. -/
import Derived.Test.YthpmbfdbknikcaaKept
import Derived.Test.YthpmbfdbknikcaaCarry
import Derived.Test.YthpmbfdbknikcaaMul64
import Derived.WalkSpells
import Derived.WalkLawsBesides
import Derived.StillTailTactics
import Derived.LoopN
set_option linter.unusedVariables false
set_option linter.unusedSimpArgs false
namespace Go.Proofs.Ythpmbfdbknikcaa
open Go.RowKit

def over128 (x : Nat) : Bool := decide (2 ^ 128 ≤ x)

theorem add_lo {a0 a1 b0 b1 : Int} (h0 : U64 a0) (h1 : U64 a1) (g0 : U64 b0) (g1 : U64 b1) :
    sumI a0 b0 0 = limb 0 (val2 a0 a1 + val2 b0 b1) ∧ sumI a1 b1 (carI a0 b0 0) = limb 1 (val2 a0 a1 + val2 b0 b1) ∧ (carI a1 b1 (carI a0 b0 0) != 0) = over128 (val2 a0 a1 + val2 b0 b1) := by
  have := h0.lo; have := h0.hi; have := h1.lo; have := h1.hi; have := g0.lo; have := g0.hi; have := g1.lo; have := g1.hi
  refine ⟨by unfold sumI limb val2; omega, by unfold sumI carI limb val2; omega, ?_⟩
  unfold over128 carI val2
  rw [Bool.eq_iff_iff, bne_iff_ne, decide_eq_true_iff]
  omega
theorem sub_lo {a0 a1 b0 b1 : Int} (h0 : U64 a0) (h1 : U64 a1) (g0 : U64 b0) (g1 : U64 b1) :
    difI a0 b0 0 = limb 0 (val2 a0 a1 + 2 ^ 128 - val2 b0 b1) ∧ difI a1 b1 (borI a0 b0 0) = limb 1 (val2 a0 a1 + 2 ^ 128 - val2 b0 b1) ∧ (borI a1 b1 (borI a0 b0 0) != 0) = ltB (val2 a0 a1) (val2 b0 b1) := by
  have := h0.lo; have := h0.hi; have := h1.lo; have := h1.hi; have := g0.lo; have := g0.hi; have := g1.lo; have := g1.hi
  refine ⟨by unfold difI limb val2; omega, by unfold difI borI limb val2; split <;> omega, ?_⟩
  unfold ltB borI val2
  rw [Bool.eq_iff_iff, bne_iff_ne, decide_eq_true_iff]
  split <;> split <;> omega

set_option maxRecDepth 100000 in
set_option maxHeartbeats 400000 in
theorem Add_any {a0 a1 b0 b1 : Int} (h0 : U64 a0) (h1 : U64 a1) (g0 : U64 b0) (g1 : U64 b1) (w : World) :
    Calls Try.prog 27 #[.agg #[.int .u64 a1, .int .u64 a0], .agg #[.int .u64 b1, .int .u64 b0]] w fun e w' =>
      e = .returned (.tuple #[bitsV (val2 a0 a1 + val2 b0 b1), .bool (over128 (val2 a0 a1 + val2 b0 b1))]) ∧ Below w.heap.size w w' := by
  have c0 := carI_bit h0 g0 (c := 0) (by omega) (by omega)
  have r0 := fun w => add64_run h0 g0 (c := 0) (by omega) (by omega) w
  have r1 := fun w => add64_run h1 g1 c0.1 c0.2 w
  obtain ⟨e0, e1, e2⟩ := add_lo h0 h1 g0 g1
  have E := Lib.hid (And.intro e0 (And.intro e1 e2)); clear e0 e1 e2 c0
  go_enter Try.func27, Try.ntmps27
  go_wp2
  refine bodyPost_ret (v := .tuple #[.agg #[.int .u64 (sumI a1 b1 (carI a0 b0 0)), .int .u64 (sumI a0 b0 0)], .bool (carI a1 b1 (carI a0 b0 0) != 0)]) (by simp [results, Try.results27, go_sem]) rfl ⟨?_, ?_⟩
  · rw [E.out.1, E.out.2.1, E.out.2.2]
  · exact (by refine Kept.below ?_; repeat (first | exact Kept.refl _ | refine Kept.alloc ?_ _ | refine Kept.drew ?_ | refine Kept.setCell ?_ (by simp; try omega) _))

set_option maxRecDepth 100000 in
set_option maxHeartbeats 400000 in
theorem Sub_any {a0 a1 b0 b1 : Int} (h0 : U64 a0) (h1 : U64 a1) (g0 : U64 b0) (g1 : U64 b1) (w : World) :
    Calls Try.prog 28 #[.agg #[.int .u64 a1, .int .u64 a0], .agg #[.int .u64 b1, .int .u64 b0]] w fun e w' =>
      e = .returned (.tuple #[bitsV (val2 a0 a1 + 2 ^ 128 - val2 b0 b1), .bool (ltB (val2 a0 a1) (val2 b0 b1))]) ∧ Below w.heap.size w w' := by
  have c0 := borI_bit a0 b0 0
  have r0 := fun w => sub64_run h0 g0 (c := 0) (by omega) (by omega) w
  have r1 := fun w => sub64_run h1 g1 c0.1 c0.2 w
  obtain ⟨e0, e1, e2⟩ := sub_lo h0 h1 g0 g1
  have E := Lib.hid (And.intro e0 (And.intro e1 e2)); clear e0 e1 e2 c0
  go_enter Try.func28, Try.ntmps28
  go_wp2
  refine bodyPost_ret (v := .tuple #[.agg #[.int .u64 (difI a1 b1 (borI a0 b0 0)), .int .u64 (difI a0 b0 0)], .bool (borI a1 b1 (borI a0 b0 0) != 0)]) (by simp [results, Try.results28, go_sem]) rfl ⟨?_, ?_⟩
  · rw [E.out.1, E.out.2.1, E.out.2.2]
  · exact (by refine Kept.below ?_; repeat (first | exact Kept.refl _ | refine Kept.alloc ?_ _ | refine Kept.drew ?_ | refine Kept.setCell ?_ (by simp; try omega) _))

set_option maxRecDepth 100000 in
set_option maxHeartbeats 400000 in
theorem Mul_any {x y : Int} (hx : U64 x) (hy : U64 y) (w : World) :
    Calls Try.prog 33 #[.int .u64 x, .int .u64 y] w fun e w' =>
      e = .returned (bitsV (x.toNat * y.toNat)) ∧ Below w.heap.size w w' := by
  go_enter Try.func33, Try.ntmps33
  go_wp2_with (go_at_call 61; refine (Mul64_any hx hy _).mono ?_; rintro e w' ⟨rfl, rfl⟩)
  refine bodyPost_ret (v := bitsV (x.toNat * y.toNat)) (by simp [results, Try.results33, go_sem]) rfl ⟨rfl, ?_⟩
  exact (by refine Kept.below ?_; repeat (first | exact Kept.refl _ | refine Kept.alloc ?_ _ | refine Kept.drew ?_ | refine Kept.setCell ?_ (by simp; try omega) _))

set_option maxRecDepth 100000 in
set_option maxHeartbeats 400000 in
theorem Zero_any (a0 a1 : Int) (w : World) :
    Calls Try.prog 39 #[.agg #[.int .u64 a1, .int .u64 a0]] w fun e w' =>
      e = .returned (.bool (decide (a1 = 0) && decide (a0 = 0))) ∧ Below w.heap.size w w' := by
  go_enter Try.func39, Try.ntmps39
  go_wp2
  all_goals go_ret
  all_goals exact ⟨ret_bool (by simp_all), (by refine Kept.below ?_; repeat (first | exact Kept.refl _ | refine Kept.alloc ?_ _ | refine Kept.drew ?_ | refine Kept.setCell ?_ (by simp; try omega) _))⟩

theorem cmpI_range (x y : Int) : -1 ≤ cmpI x y ∧ cmpI x y ≤ 1 := by unfold cmpI; split <;> (try split) <;> omega

set_option maxRecDepth 100000 in
set_option maxHeartbeats 400000 in
theorem isNaN_any (x : Int) (w : World) :
    Calls Try.prog 78 #[.int .u64 x] w fun e w' => e = .returned (.bool false) ∧ w = w' := by
  go_enter Try.func78, Try.ntmps78
  go_wp2
  all_goals go_ret
  all_goals exact ⟨rfl, rfl⟩
set_option maxRecDepth 100000 in
set_option maxHeartbeats 400000 in
theorem Compare_any (x y : Int) (w : World) :
    Calls Try.prog 63 #[.int .u64 x, .int .u64 y] w fun e w' => e = .returned (.int .i64 (cmpI x y)) ∧ w = w' := by
  go_enter Try.func63, Try.ntmps63
  go_wp2_with (go_at_call 78; refine (isNaN_any _ _).mono ?_; rintro e w' ⟨rfl, rfl⟩)
  all_goals go_ret
  all_goals exact ⟨ret_int (by unfold cmpI; (repeat' split) <;> omega), rfl⟩

/-- the first of two that is not 0 -/
def firstI (x y : Int) : Int := if x = 0 then y else x

set_option maxRecDepth 100000 in
set_option maxHeartbeats 400000 in
theorem first_any (b : Nat) (x y : Int) (w : World) (h0 : w.cell? ⟨b, 0, none⟩ = some (.int .i64 x)) (h1 : w.cell? ⟨b, 1, none⟩ = some (.int .i64 y)) :
    Calls Try.prog 62 #[.slice (some ⟨b, 0, none⟩) 2 2] w fun e w' => e = .returned (.int .i64 (firstI x y)) ∧ w = w' := by
  by_cases hx : x = 0
  · subst hx
    by_cases hy : y = 0
    · subst hy
      go_enter Try.func62, Try.ntmps62
      go_wp2
      refine wp_loop_rounds 3 ?_
      rw [rounds_succ]; go_wp2
      rw [rounds_succ]; go_wp2
      rw [rounds_succ]; go_wp2
      go_ret
      exact ⟨rfl, rfl⟩
    · have hy1 : (y != 0) = true := bne_iff_ne.2 hy
      go_enter Try.func62, Try.ntmps62
      go_wp2
      refine wp_loop_rounds 2 ?_
      rw [rounds_succ]; go_wp2
      rw [rounds_succ]; go_wp2
      go_ret
      exact ⟨rfl, rfl⟩
  · have hx1 : (x != 0) = true := bne_iff_ne.2 hx
    go_enter Try.func62, Try.ntmps62
    go_wp2
    refine wp_loop_rounds 1 ?_
    rw [rounds_succ]; go_wp2
    go_ret
    exact ⟨ret_int (by simp [firstI, hx]), rfl⟩

theorem cmp_two {a0 a1 b0 b1 : Int} (h0 : U64 a0) (h1 : U64 a1) (g0 : U64 b0) (g1 : U64 b1) : firstI (cmpI a1 b1) (cmpI a0 b0) = cmpI (val2 a0 a1) (val2 b0 b1) := by
  have := h0.lo; have := h0.hi; have := h1.lo; have := h1.hi; have := g0.lo; have := g0.hi; have := g1.lo; have := g1.hi
  unfold firstI cmpI val2
  (repeat' split) <;> omega

set_option maxRecDepth 100000 in
set_option maxHeartbeats 400000 in
theorem Cmp_any {a0 a1 b0 b1 : Int} (h0 : U64 a0) (h1 : U64 a1) (g0 : U64 b0) (g1 : U64 b1) (w : World) :
    Calls Try.prog 36 #[.agg #[.int .u64 a1, .int .u64 a0], .agg #[.int .u64 b1, .int .u64 b0]] w fun e w' =>
      e = .returned (.int .i64 (cmpI (val2 a0 a1) (val2 b0 b1))) ∧ Below w.heap.size w w' := by
  go_enter Try.func36, Try.ntmps36
  go_wp2
  refine wp_region_still_tail 10 (by kernel_rfl) (by kernel_rfl) ?_
  simp only [List.take_succ_cons, List.take_zero, List.drop_succ_cons, List.drop_zero]
  change wpStill _ _ (World.drew _) _ _ _
  repeat (first | still_step | still_call ((Compare_any _ _ _).mono fun _ _ h => ⟨h.1, h.2.symm⟩))
  refine wpStill_nil ?_
  change wpList _ _ _ _ _ (World.drew _)
  go_wp2_with fail
  refine (first_any _ (cmpI a1 b1) (cmpI a0 b0) _ (by go_simp) (by go_simp)).mono ?_
  rintro e w' ⟨rfl, rfl⟩
  go_wp2
  go_ret
  exact ⟨ret_int (cmp_two h0 h1 g0 g1), (by refine Kept.below ?_; repeat (first | exact Kept.refl _ | refine Kept.alloc ?_ _ | refine Kept.drew ?_ | refine Kept.setCell ?_ (by simp; try omega) _))⟩

theorem bit_hi {a0 a1 : Int} (h0 : U64 a0) (h1 : U64 a1) {i : Int} (k : 63 < i) (k2 : i ≤ 127) : (bits .and .u64 (a1 / 2 ^ (i - 64).toNat) 1 == 1) = bitZ (val2 a0 a1) i := by
  have := part2_bit h0 h1 1 (i - 64).toNat (by omega)
  rw [show 64 * (1 : Int) + ((i - 64).toNat : Nat) = i from by omega] at this
  rw [← this, bit_and h1]; rfl
theorem bit_lo {a0 a1 : Int} (h0 : U64 a0) (h1 : U64 a1) {i : Int} (k : 0 ≤ i) (k2 : i ≤ 63) : (bits .and .u64 (a0 / 2 ^ i.toNat) 1 == 1) = bitZ (val2 a0 a1) i := by
  have := part2_bit h0 h1 0 i.toNat (by omega)
  rw [show 64 * (0 : Int) + (i.toNat : Nat) = i from by omega] at this
  rw [← this, bit_and h0]; rfl
theorem bit_no {a0 a1 : Int} (h0 : U64 a0) (h1 : U64 a1) {i : Int} (k : i < 0 ∨ 127 < i) : false = bitZ (val2 a0 a1) i := by
  unfold bitZ
  rcases k with k | k
  · rw [decide_eq_false (by omega)]; rfl
  · rw [Nat.testBit_lt_two_pow (Nat.lt_of_lt_of_le (val2_lt h0 h1) (Nat.pow_le_pow_right (by omega) (by omega))), Bool.and_false]

set_option maxRecDepth 100000 in
set_option maxHeartbeats 400000 in
theorem Bit_any {a0 a1 : Int} (h0 : U64 a0) (h1 : U64 a1) (i : Int) (w : World) :
    Calls Try.prog 37 #[.agg #[.int .u64 a1, .int .u64 a0], .int .i64 i] w fun e w' =>
      e = .returned (.bool (bitZ (val2 a0 a1) i)) ∧ Below w.heap.size w w' := by
  by_cases k : i < 0
  · go_enter Try.func37, Try.ntmps37
    go_wp2
    go_ret
    exact ⟨ret_bool (bit_no h0 h1 (Or.inl k)), (by refine Kept.below ?_; repeat (first | exact Kept.refl _ | refine Kept.alloc ?_ _ | refine Kept.drew ?_ | refine Kept.setCell ?_ (by simp; try omega) _))⟩
  · by_cases k1 : 127 < i
    · go_enter Try.func37, Try.ntmps37
      go_wp2
      go_ret
      exact ⟨ret_bool (bit_no h0 h1 (Or.inr k1)), (by refine Kept.below ?_; repeat (first | exact Kept.refl _ | refine Kept.alloc ?_ _ | refine Kept.drew ?_ | refine Kept.setCell ?_ (by simp; try omega) _))⟩
    · by_cases k2 : 63 < i
      · go_enter Try.func37, Try.ntmps37
        go_wp2
        go_ret
        exact ⟨ret_bool (bit_hi h0 h1 k2 (by omega)), (by refine Kept.below ?_; repeat (first | exact Kept.refl _ | refine Kept.alloc ?_ _ | refine Kept.drew ?_ | refine Kept.setCell ?_ (by simp; try omega) _))⟩
      · go_enter Try.func37, Try.ntmps37
        go_wp2
        go_ret
        exact ⟨ret_bool (bit_lo h0 h1 (by omega) (by omega)), (by refine Kept.below ?_; repeat (first | exact Kept.refl _ | refine Kept.alloc ?_ _ | refine Kept.drew ?_ | refine Kept.setCell ?_ (by simp; try omega) _))⟩
/-! the same, of numbers -/
theorem Add_at {a1 a0 b1 b0 : Int} {A B : Nat} (ha : IsBits a1 a0 A) (hb : IsBits b1 b0 B) (w : World) :
    Calls Try.prog 27 #[.agg #[.int .u64 a1, .int .u64 a0], .agg #[.int .u64 b1, .int .u64 b0]] w fun e w' =>
      e = .returned (.tuple #[bitsV (add128 A B), .bool (carry128 A B)]) ∧ Below w.heap.size w w' := by
  refine (Add_any ha.u0 ha.u1 hb.u0 hb.u1 w).mono fun e w' ⟨he, hk⟩ => ⟨?_, hk⟩
  rw [he, ha.v, hb.v]
  unfold bitsV add128
  rw [limb_mod128 1 _ (by omega), limb_mod128 0 _ (by omega)]; rfl
theorem Sub_at {a1 a0 b1 b0 : Int} {A B : Nat} (ha : IsBits a1 a0 A) (hb : IsBits b1 b0 B) (w : World) :
    Calls Try.prog 28 #[.agg #[.int .u64 a1, .int .u64 a0], .agg #[.int .u64 b1, .int .u64 b0]] w fun e w' =>
      e = .returned (.tuple #[bitsV (sub128 A B), .bool (ltB A B)]) ∧ Below w.heap.size w w' := by
  refine (Sub_any ha.u0 ha.u1 hb.u0 hb.u1 w).mono fun e w' ⟨he, hk⟩ => ⟨?_, hk⟩
  rw [he, ha.v, hb.v]
  unfold bitsV sub128
  rw [limb_mod128 1 _ (by omega), limb_mod128 0 _ (by omega)]
theorem Cmp_at {a1 a0 b1 b0 : Int} {A B : Nat} (ha : IsBits a1 a0 A) (hb : IsBits b1 b0 B) (w : World) :
    Calls Try.prog 36 #[.agg #[.int .u64 a1, .int .u64 a0], .agg #[.int .u64 b1, .int .u64 b0]] w fun e w' =>
      e = .returned (.int .i64 (cmpN A B)) ∧ Below w.heap.size w w' := by
  refine (Cmp_any ha.u0 ha.u1 hb.u0 hb.u1 w).mono fun e w' ⟨he, hk⟩ => ⟨?_, hk⟩
  rw [he, ha.v, hb.v]; rfl
theorem Mul_at {x y : Int} (hx : U64 x) (hy : U64 y) (w : World) :
    Calls Try.prog 33 #[.int .u64 x, .int .u64 y] w fun e w' =>
      e = .returned (bitsV (mulI x y)) ∧ Below w.heap.size w w' := by
  unfold mulI; exact Mul_any hx hy w
theorem Bit_at {a1 a0 : Int} {A : Nat} (ha : IsBits a1 a0 A) (i : Int) (w : World) :
    Calls Try.prog 37 #[.agg #[.int .u64 a1, .int .u64 a0], .int .i64 i] w fun e w' =>
      e = .returned (.bool (bitZ A i)) ∧ Below w.heap.size w w' := by
  refine (Bit_any ha.u0 ha.u1 i w).mono fun e w' ⟨he, hk⟩ => ⟨?_, hk⟩
  rw [he, ha.v]
theorem Zero_at {a1 a0 : Int} {A : Nat} (ha : IsBits a1 a0 A) (w : World) :
    Calls Try.prog 39 #[.agg #[.int .u64 a1, .int .u64 a0]] w fun e w' =>
      e = .returned (.bool (zeroB A)) ∧ Below w.heap.size w w' := by
  refine (Zero_any a0 a1 w).mono fun e w' ⟨he, hk⟩ => ⟨?_, hk⟩
  rw [he]
  have e1 := ha.v
  have := ha.u0.lo; have := ha.u1.lo
  refine ret_bool ?_
  unfold zeroB
  rw [← e1, Bool.eq_iff_iff, Bool.and_eq_true, decide_eq_true_iff, decide_eq_true_iff, decide_eq_true_iff]
  unfold val2; omega
end Go.Proofs.Ythpmbfdbknikcaa
