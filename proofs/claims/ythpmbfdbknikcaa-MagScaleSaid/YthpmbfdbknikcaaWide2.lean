/- The contracts of wide.Add and wide.Sub. -/
import Derived.Test.YthpmbfdbknikcaaChain
import Derived.Test.YthpmbfdbknikcaaNum2
import Derived.Test.YthpmbfdbknikcaaWide
set_option linter.unusedVariables false
set_option linter.unusedSimpArgs false
namespace Go.Proofs.Ythpmbfdbknikcaa
open Go.RowKit

theorem chSt_sum (A B : Nat) : ∀ k, k ≤ 4 → (chSt sumI carI A B (fourth k)).2 = carN k A B ∧ ∀ i, i < k → (chSt sumI carI A B (fourth k)).1 i = limb i (A + B)
  | 0, _ => ⟨(carN_zero A B).symm, fun i hi => absurd hi (by omega)⟩
  | k + 1, hk => by
    obtain ⟨h1, h2⟩ := chSt_sum A B k (by omega)
    rw [fourth_succ (by omega), chSt_snoc]
    refine ⟨by rw [h1]; exact car_limb A B k, fun i hi => ?_⟩
    by_cases e : i = k
    · subst e; simp only [if_true]; rw [h1]; exact sum_limb A B i
    · simp only [if_neg e]; exact h2 i (by omega)
theorem chSt_dif (A B : Nat) (hB : B < 2 ^ 256) : ∀ k, k ≤ 4 → (chSt difI borI A B (fourth k)).2 = borN k A B ∧ ∀ i, i < k → (chSt difI borI A B (fourth k)).1 i = limb i (A + 2 ^ 256 - B)
  | 0, _ => ⟨(borN_zero A B).symm, fun i hi => absurd hi (by omega)⟩
  | k + 1, hk => by
    obtain ⟨h1, h2⟩ := chSt_dif A B hB k (by omega)
    rw [fourth_succ (by omega), chSt_snoc]
    refine ⟨by rw [h1]; exact bor_limb A B k, fun i hi => ?_⟩
    by_cases e : i = k
    · subst e; simp only [if_true]; rw [h1]; exact dif_limb A B i (by omega) hB
    · simp only [if_neg e]; exact h2 i (by omega)

theorem chain_Add {A B : Nat} (hA : W256 A) (hB : W256 B) (w : World) :
    Calls Try.prog 64 #[wideV A, wideV B, .func (.func 59) #[] #[]] w fun e w' => e = .returned (.tuple #[wideV (add256 A B), .bool (carry256 A B)]) ∧ Below w.heap.size w w' := by
  refine (callsIn_wide (n := 3)).1 ?_
  refine (chain_in Fence.wide rfl 3 (by omega) 59 sumI carI (fun x y c hx hy h0 h1 => carI_bit hx hy h0 h1) (fun x y c w hx hy h0 h1 => add64_run hx hy h0 h1 w) A B w).mono fun e w' ⟨he, hk⟩ => ⟨?_, hk⟩
  obtain ⟨h1, h2⟩ := chSt_sum A B 4 (by omega)
  rw [he, h1, h2 0 (by omega), h2 1 (by omega), h2 2 (by omega), h2 3 (by omega), carN_four hA hB]
  unfold wideV add256
  rw [limb_mod256 0 _ (by omega), limb_mod256 1 _ (by omega), limb_mod256 2 _ (by omega), limb_mod256 3 _ (by omega)]
set_option maxRecDepth 100000 in
set_option maxHeartbeats 1000000 in
theorem AddW_at {a0 a1 a2 a3 b0 b1 b2 b3 : Int} {A B : Nat} (hA : IsWide a0 a1 a2 a3 A) (hB : IsWide b0 b1 b2 b3 B) (w : World) :
    Calls Try.prog 40 #[.agg #[.int .u64 a0, .int .u64 a1, .int .u64 a2, .int .u64 a3], .agg #[.int .u64 b0, .int .u64 b1, .int .u64 b2, .int .u64 b3]] w fun e w' => e = .returned (.tuple #[wideV (add256 A B), .bool (carry256 A B)]) ∧ Below w.heap.size w w' := by
  rw [hA.e0, hA.e1, hA.e2, hA.e3, hB.e0, hB.e1, hB.e2, hB.e3]
  have hk := Kept.refl w
  have hE := Known.nil w
  go_enter Try.func40, Try.ntmps40
  go_wp2_with (go_at_call 64; refine (chain_Add hA.w hB.w _).mono ?_; rintro e w' ⟨rfl, hb⟩; replace hE : Known _ w' := Known.step hE (by refine Kept.below ?_; repeat (first | exact Kept.refl _ | refine Kept.alloc ?_ _ | refine Kept.drew ?_ | refine Kept.setCell ?_ (by simp) _)) hb; have hR := hE; (simp only [Known, and_true] at hR); replace hk : Kept w.heap.size w w' := Kept.step (by repeat (first | exact hk | refine Kept.alloc ?_ _ | refine Kept.drew ?_ | refine Kept.setCell ?_ (by simp; omega) _)) hb; have hz := hb.size; (try simp only [World.size_alloc, World.size_setCell] at hz); clear hb)
  refine bodyPost_ret (v := .tuple #[wideV (add256 A B), .bool (carry256 A B)]) (by simp [results, Try.results40, go_sem, hR]) rfl ⟨rfl, ?_⟩
  refine Kept.below ?_; repeat (first | with_reducible exact hk | with_reducible refine Kept.alloc ?_ _ | with_reducible refine Kept.drew ?_ | with_reducible refine Kept.setCell ?_ (by simp; try omega) _)

theorem chain_Sub {A B : Nat} (hA : W256 A) (hB : W256 B) (w : World) :
    Calls Try.prog 64 #[wideV A, wideV B, .func (.func 60) #[] #[]] w fun e w' => e = .returned (.tuple #[wideV (sub256 A B), .bool (ltB A B)]) ∧ Below w.heap.size w w' := by
  refine (callsIn_wide (n := 3)).1 ?_
  refine (chain_in Fence.wide rfl 3 (by omega) 60 difI borI (fun x y c _ _ _ _ => borI_bit x y c) (fun x y c w hx hy h0 h1 => sub64_run hx hy h0 h1 w) A B w).mono fun e w' ⟨he, hk⟩ => ⟨?_, hk⟩
  obtain ⟨h1, h2⟩ := chSt_dif A B hB.lt 4 (by omega)
  rw [he, h1, h2 0 (by omega), h2 1 (by omega), h2 2 (by omega), h2 3 (by omega), borN_four hA hB]
  unfold wideV sub256
  rw [limb_mod256 0 _ (by omega), limb_mod256 1 _ (by omega), limb_mod256 2 _ (by omega), limb_mod256 3 _ (by omega)]
set_option maxRecDepth 100000 in
set_option maxHeartbeats 1000000 in
theorem SubW_at {a0 a1 a2 a3 b0 b1 b2 b3 : Int} {A B : Nat} (hA : IsWide a0 a1 a2 a3 A) (hB : IsWide b0 b1 b2 b3 B) (w : World) :
    Calls Try.prog 42 #[.agg #[.int .u64 a0, .int .u64 a1, .int .u64 a2, .int .u64 a3], .agg #[.int .u64 b0, .int .u64 b1, .int .u64 b2, .int .u64 b3]] w fun e w' => e = .returned (.tuple #[wideV (sub256 A B), .bool (ltB A B)]) ∧ Below w.heap.size w w' := by
  rw [hA.e0, hA.e1, hA.e2, hA.e3, hB.e0, hB.e1, hB.e2, hB.e3]
  have hk := Kept.refl w
  have hE := Known.nil w
  go_enter Try.func42, Try.ntmps42
  go_wp2_with (go_at_call 64; refine (chain_Sub hA.w hB.w _).mono ?_; rintro e w' ⟨rfl, hb⟩; replace hE : Known _ w' := Known.step hE (by refine Kept.below ?_; repeat (first | exact Kept.refl _ | refine Kept.alloc ?_ _ | refine Kept.drew ?_ | refine Kept.setCell ?_ (by simp) _)) hb; have hR := hE; (simp only [Known, and_true] at hR); replace hk : Kept w.heap.size w w' := Kept.step (by repeat (first | exact hk | refine Kept.alloc ?_ _ | refine Kept.drew ?_ | refine Kept.setCell ?_ (by simp; omega) _)) hb; have hz := hb.size; (try simp only [World.size_alloc, World.size_setCell] at hz); clear hb)
  refine bodyPost_ret (v := .tuple #[wideV (sub256 A B), .bool (ltB A B)]) (by simp [results, Try.results42, go_sem, hR]) rfl ⟨rfl, ?_⟩
  refine Kept.below ?_; repeat (first | with_reducible exact hk | with_reducible refine Kept.alloc ?_ _ | with_reducible refine Kept.drew ?_ | with_reducible refine Kept.setCell ?_ (by simp; try omega) _)

end Go.Proofs.Ythpmbfdbknikcaa
