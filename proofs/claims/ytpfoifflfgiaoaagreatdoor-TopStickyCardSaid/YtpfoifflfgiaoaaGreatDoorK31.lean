/- hairsbreadthref29.May of an entry of an integer. -/
import Derived.Test.YtpfoifflfgiaoaaGreatDoorK27
import Derived.Test.YtpfoifflfgiaoaaGreatDoorK30
import Derived.Test.YtpfoifflfgiaoaaGreatDoorK01
set_option linter.unusedVariables false
set_option linter.unusedSimpArgs false
namespace Go.Proofs.YtpfoifflfgiaoaaGreatDoor
open Go Go.RowKit

def entW (op f to m ti a1 a0 b1 b0 c1 c0 : Int) : Value := .agg #[.int .u8 op, .int .u8 f, .int .u8 to, .int .u8 m, .int .u8 ti, .int .u64 a1, .int .u64 a0, .int .u64 b1, .int .u64 b0, .int .u64 c1, .int .u64 c0]
theorem operands12 (w : World) : Calls Tryz.prog 15 #[.int .u8 12] w fun e w' => e = .returned (.int .i64 1) ∧ w = w' := by
  go_enter Tryz.func15, Tryz.ntmps15
  go_wp2
  go_ret
  exact ⟨rfl, rfl⟩
def MayPost (op f to m ti a1 a0 b1 b0 c1 c0 : Int) (w : World) (e : Ending) (w' : World) : Prop := (∃ b, e = .returned (.bool b) ∧ (b = true ↔ MayP op f to m ti a1 a0 b1 b0 c1 c0)) ∧ Below w.heap.size w w'
theorem MayPost.no {op f to m ti a1 a0 b1 b0 c1 c0 : Int} {w w' : World} (h : ¬ MayP op f to m ti a1 a0 b1 b0 c1 c0) (hb : Below w.heap.size w w') : MayPost op f to m ti a1 a0 b1 b0 c1 c0 w (.returned (.bool false)) w' := ⟨⟨false, rfl, by simpa using h⟩, hb⟩
theorem bitZ_nat (A k : Nat) : bitZ A (k : Int) = A.testBit k := by
  simp [bitZ]
theorem sizeK_le {k : Int} {n : Nat} : sizeK k n ≤ 2 ^ 64 := by
  unfold sizeK wideK
  have h1 := Nat.mod_lt n (show 0 < 2 ^ 32 by decide)
  have h2 := Nat.mod_lt n (show 0 < 2 ^ 64 by decide)
  split <;> split <;> omega
theorem testBit_div (A k : Nat) : A.testBit k = decide (A / 2 ^ k % 2 = 1) := Nat.testBit_eq_decide_div_mod_eq
theorem signed_has {k : Int} (hk : k = 0 ∨ k = 1 ∨ k = 2 ∨ k = 3) {n : Nat} (hn : n < 2 ^ 64) : limb 0 (if negK k n = true then 2 ^ 64 - sizeK k n else sizeK k n) = (n : Int) ↔ HasP k n := by
  have l0 : ∀ A : Nat, limb 0 A = ((A % 2 ^ 64 : Nat) : Int) := fun A => by rw [limb_nat]; simp
  rcases hk with rfl | rfl | rfl | rfl
  · have e : negK 0 n = decide (n % 2 ^ 32 / 2 ^ 31 % 2 = 1) := by
      unfold negK wideK; rw [bitZ_nat, testBit_div]; simp
    rw [l0]
    unfold sizeK
    rw [e]
    simp only [decide_eq_true_eq, wideK, HasP]
    simp only [if_true, true_or, or_true]
    split <;> (simp only [true_implies, forall_const]; omega)
  · have e : negK 1 n = false := by simp [negK]
    rw [l0]
    unfold sizeK
    rw [e]
    simp only [wideK, HasP]
    simp
    omega
  · have e : negK 2 n = decide (n % 2 ^ 64 / 2 ^ 63 % 2 = 1) := by
      unfold negK wideK; rw [bitZ_nat, testBit_div]; simp
    rw [l0]
    unfold sizeK
    rw [e]
    simp only [decide_eq_true_eq, wideK, HasP]
    simp
    split <;> omega
  · have e : negK 3 n = false := by simp [negK]
    rw [l0]
    unfold sizeK
    rw [e]
    simp only [wideK, HasP]
    simp
    omega
set_option maxRecDepth 100000 in
set_option maxHeartbeats 8000000 in
theorem May12_0 {f m ti a1 b1 b0 c1 c0 : Int} (n : Nat) (hn : n < 2 ^ 64) (h : EntR 12 f 0 m ti a1 n b1 b0 c1 c0) (w : World) :
    Calls Tryz.prog 9 #[entW 12 f 0 m ti a1 n b1 b0 c1 c0] w (MayPost 12 f 0 m ti a1 n b1 b0 c1 c0 w) := by
  have hk : Kept w.heap.size w w := Kept.refl w
  have hE := Known.nil w
  have hsz := @sizeK_le 0 n
  obtain ⟨q, hq⟩ : ∃ q : Int, limb 0 (if negK 0 n = true then 2 ^ 64 - sizeK 0 n else sizeK 0 n) = q := ⟨_, rfl⟩
  unfold entW
  by_cases ha : a1 = 0
  · subst ha
    go_enter Tryz.func9, Tryz.ntmps9
    go_wp2_with (first
      | (go_at_call 15; refine (operands12 _).mono ?_; rintro e w' ⟨rfl, rfl⟩)
      | (go_at_call 16; refine (Of27_any _ (by omega) n hn _).mono ?_; rintro e w' ⟨v, rfl, hN, hb⟩; replace hE : Known _ w' := Known.step hE (by refine Kept.below ?_; repeat (first | with_reducible exact Kept.refl _ | with_reducible refine Kept.alloc ?_ _ | with_reducible refine Kept.drew ?_ | with_reducible refine Kept.setCell ?_ (by simp) _)) hb; have hR := hE; (simp only [Known, and_true] at hR); replace hk : Kept w.heap.size w w' := Kept.step (by repeat (first | with_reducible exact hk | with_reducible refine Kept.alloc ?_ _ | with_reducible refine Kept.drew ?_ | with_reducible refine Kept.setCell ?_ (by simp; omega) _)) hb; have hz := hb.size; (try simp only [World.size_alloc, World.size_setCell] at hz); clear hb))
    all_goals first
      | (go_ret; exact MayPost.no (by
          intro hm
          obtain ⟨⟨_, q1, q2, q3, q4⟩, q5, q6, q7, q8, q9⟩ := hm
          have q6 := q6 (by decide)
          have q7 := q7 (by decide)
          first | omega | (simp_all; done) | (simp_all; omega)) (by refine Kept.below ?_; repeat (first | with_reducible exact Kept.refl _ | with_reducible exact hk | with_reducible refine Kept.alloc ?_ _ | with_reducible refine Kept.drew ?_ | with_reducible refine Kept.setCell ?_ (by simp; try omega) _)))
      | skip
    all_goals
      have hs : ∀ W W' : World, Below W.heap.size W W' → (Kept w.heap.size w W ∧ IsN W v (sizeK 0 n) ∧ w.heap.size < W.heap.size ∧ W.cell? ⟨w.heap.size, 5, none⟩ = some (.int .u64 0) ∧ W.cell? ⟨w.heap.size, 6, none⟩ = some (.int .u64 (n : Int))) → (Kept w.heap.size w W' ∧ IsN W' v (sizeK 0 n) ∧ w.heap.size < W'.heap.size ∧ W'.cell? ⟨w.heap.size, 5, none⟩ = some (.int .u64 0) ∧ W'.cell? ⟨w.heap.size, 6, none⟩ = some (.int .u64 (n : Int))) := fun W W' hb h => ⟨h.1.step hb, h.2.1.call hb, Nat.lt_of_lt_of_le h.2.2.1 hb.size, (hb.cell h.2.2.1).trans h.2.2.2.1, (hb.cell h.2.2.1).trans h.2.2.2.2⟩
      have HS := Lib.hid hs; clear hs
      go_region_held3 (fun W' => Kept w.heap.size w W' ∧ IsN W' v (sizeK 0 n) ∧ w.heap.size < W'.heap.size ∧ W'.cell? ⟨w.heap.size, 5, none⟩ = some (.int .u64 0) ∧ W'.cell? ⟨w.heap.size, 6, none⟩ = some (.int .u64 (n : Int)))
        ((first | (with_reducible exact HS.out _ _ (by assumption) (by assumption)) | assumption | (with_reducible exact HS.out _ _ ((Below.refl _ _).drew) (by assumption)) | exact ⟨by repeat (first | with_reducible assumption | with_reducible exact Kept.refl _ | with_reducible refine Kept.alloc ?_ _ | with_reducible refine Kept.drew ?_ | with_reducible refine Kept.setCell ?_ (by simp; try omega) _), (by first | assumption | exact hN), (by go_simp), (by go_simp), (by go_simp)⟩))
        (first
          | (go_at_call 17; refine (Signed_any _ _ (by first | exact hN.drew | exact hN) hsz).mono ?_; rintro e w' ⟨he, hb⟩; rw [hq] at he; subst he))
    all_goals go_wp2
    all_goals go_ret
    all_goals
      refine ⟨⟨_, rfl, ?_⟩, by apply kept_of; assumption⟩
      have hsh := signed_has (k := 0) (by omega) hn
      rw [hq] at hsh
      rw [beq_iff_eq, hsh]
      constructor
      · intro hh
        exact ⟨⟨by omega, by simp_all, by simp_all, by simp_all, by omega⟩, .inr (.inr (.inr rfl)), fun _ => ⟨by first | rfl | assumption | simp_all, by first | rfl | assumption | simp_all⟩, fun _ => ⟨by first | rfl | assumption | simp_all, by first | rfl | assumption | simp_all⟩, fun _ => ⟨rfl, hh⟩, fun hh => absurd rfl hh⟩
      · intro hm
        exact (hm.2.2.2.2.1 rfl).2
  · have ha0 : (a1 == 0) = false := by simp [ha]
    go_enter Tryz.func9, Tryz.ntmps9
    go_wp2_with (first
      | (go_at_call 15; refine (operands12 _).mono ?_; rintro e w' ⟨rfl, rfl⟩)
      | (go_at_call 16; refine (Of27_any _ (by omega) n hn _).mono ?_; rintro e w' ⟨v, rfl, hN, hb⟩; replace hE : Known _ w' := Known.step hE (by refine Kept.below ?_; repeat (first | with_reducible exact Kept.refl _ | with_reducible refine Kept.alloc ?_ _ | with_reducible refine Kept.drew ?_ | with_reducible refine Kept.setCell ?_ (by simp) _)) hb; have hR := hE; (simp only [Known, and_true] at hR); replace hk : Kept w.heap.size w w' := Kept.step (by repeat (first | with_reducible exact hk | with_reducible refine Kept.alloc ?_ _ | with_reducible refine Kept.drew ?_ | with_reducible refine Kept.setCell ?_ (by simp; omega) _)) hb; have hz := hb.size; (try simp only [World.size_alloc, World.size_setCell] at hz); clear hb))
    all_goals first
      | (go_ret; exact MayPost.no (by
          intro hm
          obtain ⟨⟨_, q1, q2, q3, q4⟩, q5, q6, q7, q8, q9⟩ := hm
          have q6 := q6 (by decide)
          have q7 := q7 (by decide)
          first | omega | (simp_all; done) | (simp_all; omega)) (by refine Kept.below ?_; repeat (first | with_reducible exact Kept.refl _ | with_reducible exact hk | with_reducible refine Kept.alloc ?_ _ | with_reducible refine Kept.drew ?_ | with_reducible refine Kept.setCell ?_ (by simp; try omega) _)))
      | skip
    all_goals
      refine wp_region_head 14 (fun W' => W'.cell? ⟨w.heap.size, 5, none⟩ = some (.int .u64 a1)) (by kernel_rfl) (by kernel_rfl) (by go_simp) ?_
      simp only [List.take_succ_cons, List.take_zero, List.drop_succ_cons, List.drop_zero]
      refine head_pure ?_ (fun _ _ _ h => h) (Or.inl ⟨by rfl, ?_⟩) ?_
      rotate_left
      · intro w; go_simp; first | done | with_reducible rfl
      simp only [Act.put, List.setIfInBounds_toArray, List.set_cons_zero, List.set_cons_succ]
      refine head_pure ?_ (fun _ _ _ h => h) (Or.inl ⟨by rfl, ?_⟩) ?_
      rotate_left
      · intro w; go_simp; first | done | with_reducible rfl
      simp only [Act.put, List.setIfInBounds_toArray, List.set_cons_zero, List.set_cons_succ]
      refine head_read ?_ (by kernel_rfl) (fun _ _ _ h => h) (Or.inl ⟨by rfl, ?_⟩) ?_
      rotate_left
      · intro w hS; (try dsimp only at hS); go_simp; first | done | with_reducible rfl
      simp only [Act.put, List.setIfInBounds_toArray, List.set_cons_zero, List.set_cons_succ]
      refine head_pure (.bool false) (fun _ _ _ h => h) (Or.inl ⟨by rfl, ?_⟩) ?_
      · intro w; go_simp; first | done | (rw [ha0]; done) | (simp [ha0]; done) | (rw [ha0]; rfl)
      simp only [Act.put, List.setIfInBounds_toArray, List.set_cons_zero, List.set_cons_succ]
      refine head_pure ?_ (fun _ _ _ h => h) (Or.inl ⟨by rfl, ?_⟩) ?_
      rotate_left
      · intro w; go_simp; first | done | with_reducible rfl
      simp only [Act.put, List.setIfInBounds_toArray, List.set_cons_zero, List.set_cons_succ]
      refine head_pure undef (fun _ _ _ h => h) (Or.inr ⟨by rfl, rfl⟩) ?_
      simp only [Act.put, List.setIfInBounds_toArray, List.set_cons_zero, List.set_cons_succ]
      refine head_pure undef (fun _ _ _ h => h) (Or.inr ⟨by rfl, rfl⟩) ?_
      simp only [Act.put, List.setIfInBounds_toArray, List.set_cons_zero, List.set_cons_succ]
      refine head_pure undef (fun _ _ _ h => h) (Or.inr ⟨by rfl, rfl⟩) ?_
      simp only [Act.put, List.setIfInBounds_toArray, List.set_cons_zero, List.set_cons_succ]
      refine head_pure undef (fun _ _ _ h => h) (Or.inr ⟨by rfl, rfl⟩) ?_
      simp only [Act.put, List.setIfInBounds_toArray, List.set_cons_zero, List.set_cons_succ]
      refine head_pure undef (fun _ _ _ h => h) (Or.inr ⟨by rfl, rfl⟩) ?_
      simp only [Act.put, List.setIfInBounds_toArray, List.set_cons_zero, List.set_cons_succ]
      refine head_pure undef (fun _ _ _ h => h) (Or.inr ⟨by rfl, rfl⟩) ?_
      simp only [Act.put, List.setIfInBounds_toArray, List.set_cons_zero, List.set_cons_succ]
      refine head_pure undef (fun _ _ _ h => h) (Or.inr ⟨by rfl, rfl⟩) ?_
      simp only [Act.put, List.setIfInBounds_toArray, List.set_cons_zero, List.set_cons_succ]
      refine head_pure ?_ (fun _ _ _ h => h) (Or.inl ⟨by rfl, ?_⟩) ?_
      rotate_left
      · intro w; go_simp; first | done | with_reducible rfl
      simp only [Act.put, List.setIfInBounds_toArray, List.set_cons_zero, List.set_cons_succ]
      refine head_pure ?_ (fun _ _ _ h => h) (Or.inl ⟨by rfl, ?_⟩) ?_
      rotate_left
      · intro w; go_simp; first | done | with_reducible rfl
      simp only [Act.put, List.setIfInBounds_toArray, List.set_cons_zero, List.set_cons_succ]
      change wpList _ _ _ _ _ _
    all_goals go_wp2
    all_goals go_ret
    all_goals exact MayPost.no (fun hm => ha (hm.2.2.2.2.1 rfl).1) (by first | (apply kept_of; assumption) | exact (by refine Kept.below ?_; repeat (first | with_reducible exact Kept.refl _ | with_reducible exact hk | with_reducible refine Kept.alloc ?_ _ | with_reducible refine Kept.drew ?_ | with_reducible refine Kept.setCell ?_ (by simp; try omega) _)))
set_option maxRecDepth 100000 in
set_option maxHeartbeats 8000000 in
theorem May12_1 {f m ti a1 b1 b0 c1 c0 : Int} (n : Nat) (hn : n < 2 ^ 64) (h : EntR 12 f 1 m ti a1 n b1 b0 c1 c0) (w : World) :
    Calls Tryz.prog 9 #[entW 12 f 1 m ti a1 n b1 b0 c1 c0] w (MayPost 12 f 1 m ti a1 n b1 b0 c1 c0 w) := by
  have hk : Kept w.heap.size w w := Kept.refl w
  have hE := Known.nil w
  have hsz := @sizeK_le 1 n
  obtain ⟨q, hq⟩ : ∃ q : Int, limb 0 (if negK 1 n = true then 2 ^ 64 - sizeK 1 n else sizeK 1 n) = q := ⟨_, rfl⟩
  unfold entW
  by_cases ha : a1 = 0
  · subst ha
    go_enter Tryz.func9, Tryz.ntmps9
    go_wp2_with (first
      | (go_at_call 15; refine (operands12 _).mono ?_; rintro e w' ⟨rfl, rfl⟩)
      | (go_at_call 16; refine (Of27_any _ (by omega) n hn _).mono ?_; rintro e w' ⟨v, rfl, hN, hb⟩; replace hE : Known _ w' := Known.step hE (by refine Kept.below ?_; repeat (first | with_reducible exact Kept.refl _ | with_reducible refine Kept.alloc ?_ _ | with_reducible refine Kept.drew ?_ | with_reducible refine Kept.setCell ?_ (by simp) _)) hb; have hR := hE; (simp only [Known, and_true] at hR); replace hk : Kept w.heap.size w w' := Kept.step (by repeat (first | with_reducible exact hk | with_reducible refine Kept.alloc ?_ _ | with_reducible refine Kept.drew ?_ | with_reducible refine Kept.setCell ?_ (by simp; omega) _)) hb; have hz := hb.size; (try simp only [World.size_alloc, World.size_setCell] at hz); clear hb))
    all_goals first
      | (go_ret; exact MayPost.no (by
          intro hm
          obtain ⟨⟨_, q1, q2, q3, q4⟩, q5, q6, q7, q8, q9⟩ := hm
          have q6 := q6 (by decide)
          have q7 := q7 (by decide)
          first | omega | (simp_all; done) | (simp_all; omega)) (by refine Kept.below ?_; repeat (first | with_reducible exact Kept.refl _ | with_reducible exact hk | with_reducible refine Kept.alloc ?_ _ | with_reducible refine Kept.drew ?_ | with_reducible refine Kept.setCell ?_ (by simp; try omega) _)))
      | skip
    all_goals
      have hs : ∀ W W' : World, Below W.heap.size W W' → (Kept w.heap.size w W ∧ IsN W v (sizeK 1 n) ∧ w.heap.size < W.heap.size ∧ W.cell? ⟨w.heap.size, 5, none⟩ = some (.int .u64 0) ∧ W.cell? ⟨w.heap.size, 6, none⟩ = some (.int .u64 (n : Int))) → (Kept w.heap.size w W' ∧ IsN W' v (sizeK 1 n) ∧ w.heap.size < W'.heap.size ∧ W'.cell? ⟨w.heap.size, 5, none⟩ = some (.int .u64 0) ∧ W'.cell? ⟨w.heap.size, 6, none⟩ = some (.int .u64 (n : Int))) := fun W W' hb h => ⟨h.1.step hb, h.2.1.call hb, Nat.lt_of_lt_of_le h.2.2.1 hb.size, (hb.cell h.2.2.1).trans h.2.2.2.1, (hb.cell h.2.2.1).trans h.2.2.2.2⟩
      have HS := Lib.hid hs; clear hs
      go_region_held3 (fun W' => Kept w.heap.size w W' ∧ IsN W' v (sizeK 1 n) ∧ w.heap.size < W'.heap.size ∧ W'.cell? ⟨w.heap.size, 5, none⟩ = some (.int .u64 0) ∧ W'.cell? ⟨w.heap.size, 6, none⟩ = some (.int .u64 (n : Int)))
        ((first | (with_reducible exact HS.out _ _ (by assumption) (by assumption)) | assumption | (with_reducible exact HS.out _ _ ((Below.refl _ _).drew) (by assumption)) | exact ⟨by repeat (first | with_reducible assumption | with_reducible exact Kept.refl _ | with_reducible refine Kept.alloc ?_ _ | with_reducible refine Kept.drew ?_ | with_reducible refine Kept.setCell ?_ (by simp; try omega) _), (by first | assumption | exact hN), (by go_simp), (by go_simp), (by go_simp)⟩))
        (first
          | (go_at_call 17; refine (Signed_any _ _ (by first | exact hN.drew | exact hN) hsz).mono ?_; rintro e w' ⟨he, hb⟩; rw [hq] at he; subst he))
    all_goals go_wp2
    all_goals go_ret
    all_goals
      refine ⟨⟨_, rfl, ?_⟩, by apply kept_of; assumption⟩
      have hsh := signed_has (k := 1) (by omega) hn
      rw [hq] at hsh
      rw [beq_iff_eq, hsh]
      constructor
      · intro hh
        exact ⟨⟨by omega, by simp_all, by simp_all, by simp_all, by omega⟩, .inr (.inr (.inr rfl)), fun _ => ⟨by first | rfl | assumption | simp_all, by first | rfl | assumption | simp_all⟩, fun _ => ⟨by first | rfl | assumption | simp_all, by first | rfl | assumption | simp_all⟩, fun _ => ⟨rfl, hh⟩, fun hh => absurd rfl hh⟩
      · intro hm
        exact (hm.2.2.2.2.1 rfl).2
  · have ha0 : (a1 == 0) = false := by simp [ha]
    go_enter Tryz.func9, Tryz.ntmps9
    go_wp2_with (first
      | (go_at_call 15; refine (operands12 _).mono ?_; rintro e w' ⟨rfl, rfl⟩)
      | (go_at_call 16; refine (Of27_any _ (by omega) n hn _).mono ?_; rintro e w' ⟨v, rfl, hN, hb⟩; replace hE : Known _ w' := Known.step hE (by refine Kept.below ?_; repeat (first | with_reducible exact Kept.refl _ | with_reducible refine Kept.alloc ?_ _ | with_reducible refine Kept.drew ?_ | with_reducible refine Kept.setCell ?_ (by simp) _)) hb; have hR := hE; (simp only [Known, and_true] at hR); replace hk : Kept w.heap.size w w' := Kept.step (by repeat (first | with_reducible exact hk | with_reducible refine Kept.alloc ?_ _ | with_reducible refine Kept.drew ?_ | with_reducible refine Kept.setCell ?_ (by simp; omega) _)) hb; have hz := hb.size; (try simp only [World.size_alloc, World.size_setCell] at hz); clear hb))
    all_goals first
      | (go_ret; exact MayPost.no (by
          intro hm
          obtain ⟨⟨_, q1, q2, q3, q4⟩, q5, q6, q7, q8, q9⟩ := hm
          have q6 := q6 (by decide)
          have q7 := q7 (by decide)
          first | omega | (simp_all; done) | (simp_all; omega)) (by refine Kept.below ?_; repeat (first | with_reducible exact Kept.refl _ | with_reducible exact hk | with_reducible refine Kept.alloc ?_ _ | with_reducible refine Kept.drew ?_ | with_reducible refine Kept.setCell ?_ (by simp; try omega) _)))
      | skip
    all_goals
      refine wp_region_head 14 (fun W' => W'.cell? ⟨w.heap.size, 5, none⟩ = some (.int .u64 a1)) (by kernel_rfl) (by kernel_rfl) (by go_simp) ?_
      simp only [List.take_succ_cons, List.take_zero, List.drop_succ_cons, List.drop_zero]
      refine head_pure ?_ (fun _ _ _ h => h) (Or.inl ⟨by rfl, ?_⟩) ?_
      rotate_left
      · intro w; go_simp; first | done | with_reducible rfl
      simp only [Act.put, List.setIfInBounds_toArray, List.set_cons_zero, List.set_cons_succ]
      refine head_pure ?_ (fun _ _ _ h => h) (Or.inl ⟨by rfl, ?_⟩) ?_
      rotate_left
      · intro w; go_simp; first | done | with_reducible rfl
      simp only [Act.put, List.setIfInBounds_toArray, List.set_cons_zero, List.set_cons_succ]
      refine head_read ?_ (by kernel_rfl) (fun _ _ _ h => h) (Or.inl ⟨by rfl, ?_⟩) ?_
      rotate_left
      · intro w hS; (try dsimp only at hS); go_simp; first | done | with_reducible rfl
      simp only [Act.put, List.setIfInBounds_toArray, List.set_cons_zero, List.set_cons_succ]
      refine head_pure (.bool false) (fun _ _ _ h => h) (Or.inl ⟨by rfl, ?_⟩) ?_
      · intro w; go_simp; first | done | (rw [ha0]; done) | (simp [ha0]; done) | (rw [ha0]; rfl)
      simp only [Act.put, List.setIfInBounds_toArray, List.set_cons_zero, List.set_cons_succ]
      refine head_pure ?_ (fun _ _ _ h => h) (Or.inl ⟨by rfl, ?_⟩) ?_
      rotate_left
      · intro w; go_simp; first | done | with_reducible rfl
      simp only [Act.put, List.setIfInBounds_toArray, List.set_cons_zero, List.set_cons_succ]
      refine head_pure undef (fun _ _ _ h => h) (Or.inr ⟨by rfl, rfl⟩) ?_
      simp only [Act.put, List.setIfInBounds_toArray, List.set_cons_zero, List.set_cons_succ]
      refine head_pure undef (fun _ _ _ h => h) (Or.inr ⟨by rfl, rfl⟩) ?_
      simp only [Act.put, List.setIfInBounds_toArray, List.set_cons_zero, List.set_cons_succ]
      refine head_pure undef (fun _ _ _ h => h) (Or.inr ⟨by rfl, rfl⟩) ?_
      simp only [Act.put, List.setIfInBounds_toArray, List.set_cons_zero, List.set_cons_succ]
      refine head_pure undef (fun _ _ _ h => h) (Or.inr ⟨by rfl, rfl⟩) ?_
      simp only [Act.put, List.setIfInBounds_toArray, List.set_cons_zero, List.set_cons_succ]
      refine head_pure undef (fun _ _ _ h => h) (Or.inr ⟨by rfl, rfl⟩) ?_
      simp only [Act.put, List.setIfInBounds_toArray, List.set_cons_zero, List.set_cons_succ]
      refine head_pure undef (fun _ _ _ h => h) (Or.inr ⟨by rfl, rfl⟩) ?_
      simp only [Act.put, List.setIfInBounds_toArray, List.set_cons_zero, List.set_cons_succ]
      refine head_pure undef (fun _ _ _ h => h) (Or.inr ⟨by rfl, rfl⟩) ?_
      simp only [Act.put, List.setIfInBounds_toArray, List.set_cons_zero, List.set_cons_succ]
      refine head_pure ?_ (fun _ _ _ h => h) (Or.inl ⟨by rfl, ?_⟩) ?_
      rotate_left
      · intro w; go_simp; first | done | with_reducible rfl
      simp only [Act.put, List.setIfInBounds_toArray, List.set_cons_zero, List.set_cons_succ]
      refine head_pure ?_ (fun _ _ _ h => h) (Or.inl ⟨by rfl, ?_⟩) ?_
      rotate_left
      · intro w; go_simp; first | done | with_reducible rfl
      simp only [Act.put, List.setIfInBounds_toArray, List.set_cons_zero, List.set_cons_succ]
      change wpList _ _ _ _ _ _
    all_goals go_wp2
    all_goals go_ret
    all_goals exact MayPost.no (fun hm => ha (hm.2.2.2.2.1 rfl).1) (by first | (apply kept_of; assumption) | exact (by refine Kept.below ?_; repeat (first | with_reducible exact Kept.refl _ | with_reducible exact hk | with_reducible refine Kept.alloc ?_ _ | with_reducible refine Kept.drew ?_ | with_reducible refine Kept.setCell ?_ (by simp; try omega) _)))
set_option maxRecDepth 100000 in
set_option maxHeartbeats 8000000 in
theorem May12_2 {f m ti a1 b1 b0 c1 c0 : Int} (n : Nat) (hn : n < 2 ^ 64) (h : EntR 12 f 2 m ti a1 n b1 b0 c1 c0) (w : World) :
    Calls Tryz.prog 9 #[entW 12 f 2 m ti a1 n b1 b0 c1 c0] w (MayPost 12 f 2 m ti a1 n b1 b0 c1 c0 w) := by
  have hk : Kept w.heap.size w w := Kept.refl w
  have hE := Known.nil w
  have hsz := @sizeK_le 2 n
  obtain ⟨q, hq⟩ : ∃ q : Int, limb 0 (if negK 2 n = true then 2 ^ 64 - sizeK 2 n else sizeK 2 n) = q := ⟨_, rfl⟩
  unfold entW
  by_cases ha : a1 = 0
  · subst ha
    go_enter Tryz.func9, Tryz.ntmps9
    go_wp2_with (first
      | (go_at_call 15; refine (operands12 _).mono ?_; rintro e w' ⟨rfl, rfl⟩)
      | (go_at_call 16; refine (Of27_any _ (by omega) n hn _).mono ?_; rintro e w' ⟨v, rfl, hN, hb⟩; replace hE : Known _ w' := Known.step hE (by refine Kept.below ?_; repeat (first | with_reducible exact Kept.refl _ | with_reducible refine Kept.alloc ?_ _ | with_reducible refine Kept.drew ?_ | with_reducible refine Kept.setCell ?_ (by simp) _)) hb; have hR := hE; (simp only [Known, and_true] at hR); replace hk : Kept w.heap.size w w' := Kept.step (by repeat (first | with_reducible exact hk | with_reducible refine Kept.alloc ?_ _ | with_reducible refine Kept.drew ?_ | with_reducible refine Kept.setCell ?_ (by simp; omega) _)) hb; have hz := hb.size; (try simp only [World.size_alloc, World.size_setCell] at hz); clear hb))
    all_goals first
      | (go_ret; exact MayPost.no (by
          intro hm
          obtain ⟨⟨_, q1, q2, q3, q4⟩, q5, q6, q7, q8, q9⟩ := hm
          have q6 := q6 (by decide)
          have q7 := q7 (by decide)
          first | omega | (simp_all; done) | (simp_all; omega)) (by refine Kept.below ?_; repeat (first | with_reducible exact Kept.refl _ | with_reducible exact hk | with_reducible refine Kept.alloc ?_ _ | with_reducible refine Kept.drew ?_ | with_reducible refine Kept.setCell ?_ (by simp; try omega) _)))
      | skip
    all_goals
      have hs : ∀ W W' : World, Below W.heap.size W W' → (Kept w.heap.size w W ∧ IsN W v (sizeK 2 n) ∧ w.heap.size < W.heap.size ∧ W.cell? ⟨w.heap.size, 5, none⟩ = some (.int .u64 0) ∧ W.cell? ⟨w.heap.size, 6, none⟩ = some (.int .u64 (n : Int))) → (Kept w.heap.size w W' ∧ IsN W' v (sizeK 2 n) ∧ w.heap.size < W'.heap.size ∧ W'.cell? ⟨w.heap.size, 5, none⟩ = some (.int .u64 0) ∧ W'.cell? ⟨w.heap.size, 6, none⟩ = some (.int .u64 (n : Int))) := fun W W' hb h => ⟨h.1.step hb, h.2.1.call hb, Nat.lt_of_lt_of_le h.2.2.1 hb.size, (hb.cell h.2.2.1).trans h.2.2.2.1, (hb.cell h.2.2.1).trans h.2.2.2.2⟩
      have HS := Lib.hid hs; clear hs
      go_region_held3 (fun W' => Kept w.heap.size w W' ∧ IsN W' v (sizeK 2 n) ∧ w.heap.size < W'.heap.size ∧ W'.cell? ⟨w.heap.size, 5, none⟩ = some (.int .u64 0) ∧ W'.cell? ⟨w.heap.size, 6, none⟩ = some (.int .u64 (n : Int)))
        ((first | (with_reducible exact HS.out _ _ (by assumption) (by assumption)) | assumption | (with_reducible exact HS.out _ _ ((Below.refl _ _).drew) (by assumption)) | exact ⟨by repeat (first | with_reducible assumption | with_reducible exact Kept.refl _ | with_reducible refine Kept.alloc ?_ _ | with_reducible refine Kept.drew ?_ | with_reducible refine Kept.setCell ?_ (by simp; try omega) _), (by first | assumption | exact hN), (by go_simp), (by go_simp), (by go_simp)⟩))
        (first
          | (go_at_call 17; refine (Signed_any _ _ (by first | exact hN.drew | exact hN) hsz).mono ?_; rintro e w' ⟨he, hb⟩; rw [hq] at he; subst he))
    all_goals go_wp2
    all_goals go_ret
    all_goals
      refine ⟨⟨_, rfl, ?_⟩, by apply kept_of; assumption⟩
      have hsh := signed_has (k := 2) (by omega) hn
      rw [hq] at hsh
      rw [beq_iff_eq, hsh]
      constructor
      · intro hh
        exact ⟨⟨by omega, by simp_all, by simp_all, by simp_all, by omega⟩, .inr (.inr (.inr rfl)), fun _ => ⟨by first | rfl | assumption | simp_all, by first | rfl | assumption | simp_all⟩, fun _ => ⟨by first | rfl | assumption | simp_all, by first | rfl | assumption | simp_all⟩, fun _ => ⟨rfl, hh⟩, fun hh => absurd rfl hh⟩
      · intro hm
        exact (hm.2.2.2.2.1 rfl).2
  · have ha0 : (a1 == 0) = false := by simp [ha]
    go_enter Tryz.func9, Tryz.ntmps9
    go_wp2_with (first
      | (go_at_call 15; refine (operands12 _).mono ?_; rintro e w' ⟨rfl, rfl⟩)
      | (go_at_call 16; refine (Of27_any _ (by omega) n hn _).mono ?_; rintro e w' ⟨v, rfl, hN, hb⟩; replace hE : Known _ w' := Known.step hE (by refine Kept.below ?_; repeat (first | with_reducible exact Kept.refl _ | with_reducible refine Kept.alloc ?_ _ | with_reducible refine Kept.drew ?_ | with_reducible refine Kept.setCell ?_ (by simp) _)) hb; have hR := hE; (simp only [Known, and_true] at hR); replace hk : Kept w.heap.size w w' := Kept.step (by repeat (first | with_reducible exact hk | with_reducible refine Kept.alloc ?_ _ | with_reducible refine Kept.drew ?_ | with_reducible refine Kept.setCell ?_ (by simp; omega) _)) hb; have hz := hb.size; (try simp only [World.size_alloc, World.size_setCell] at hz); clear hb))
    all_goals first
      | (go_ret; exact MayPost.no (by
          intro hm
          obtain ⟨⟨_, q1, q2, q3, q4⟩, q5, q6, q7, q8, q9⟩ := hm
          have q6 := q6 (by decide)
          have q7 := q7 (by decide)
          first | omega | (simp_all; done) | (simp_all; omega)) (by refine Kept.below ?_; repeat (first | with_reducible exact Kept.refl _ | with_reducible exact hk | with_reducible refine Kept.alloc ?_ _ | with_reducible refine Kept.drew ?_ | with_reducible refine Kept.setCell ?_ (by simp; try omega) _)))
      | skip
    all_goals
      refine wp_region_head 14 (fun W' => W'.cell? ⟨w.heap.size, 5, none⟩ = some (.int .u64 a1)) (by kernel_rfl) (by kernel_rfl) (by go_simp) ?_
      simp only [List.take_succ_cons, List.take_zero, List.drop_succ_cons, List.drop_zero]
      refine head_pure ?_ (fun _ _ _ h => h) (Or.inl ⟨by rfl, ?_⟩) ?_
      rotate_left
      · intro w; go_simp; first | done | with_reducible rfl
      simp only [Act.put, List.setIfInBounds_toArray, List.set_cons_zero, List.set_cons_succ]
      refine head_pure ?_ (fun _ _ _ h => h) (Or.inl ⟨by rfl, ?_⟩) ?_
      rotate_left
      · intro w; go_simp; first | done | with_reducible rfl
      simp only [Act.put, List.setIfInBounds_toArray, List.set_cons_zero, List.set_cons_succ]
      refine head_read ?_ (by kernel_rfl) (fun _ _ _ h => h) (Or.inl ⟨by rfl, ?_⟩) ?_
      rotate_left
      · intro w hS; (try dsimp only at hS); go_simp; first | done | with_reducible rfl
      simp only [Act.put, List.setIfInBounds_toArray, List.set_cons_zero, List.set_cons_succ]
      refine head_pure (.bool false) (fun _ _ _ h => h) (Or.inl ⟨by rfl, ?_⟩) ?_
      · intro w; go_simp; first | done | (rw [ha0]; done) | (simp [ha0]; done) | (rw [ha0]; rfl)
      simp only [Act.put, List.setIfInBounds_toArray, List.set_cons_zero, List.set_cons_succ]
      refine head_pure ?_ (fun _ _ _ h => h) (Or.inl ⟨by rfl, ?_⟩) ?_
      rotate_left
      · intro w; go_simp; first | done | with_reducible rfl
      simp only [Act.put, List.setIfInBounds_toArray, List.set_cons_zero, List.set_cons_succ]
      refine head_pure undef (fun _ _ _ h => h) (Or.inr ⟨by rfl, rfl⟩) ?_
      simp only [Act.put, List.setIfInBounds_toArray, List.set_cons_zero, List.set_cons_succ]
      refine head_pure undef (fun _ _ _ h => h) (Or.inr ⟨by rfl, rfl⟩) ?_
      simp only [Act.put, List.setIfInBounds_toArray, List.set_cons_zero, List.set_cons_succ]
      refine head_pure undef (fun _ _ _ h => h) (Or.inr ⟨by rfl, rfl⟩) ?_
      simp only [Act.put, List.setIfInBounds_toArray, List.set_cons_zero, List.set_cons_succ]
      refine head_pure undef (fun _ _ _ h => h) (Or.inr ⟨by rfl, rfl⟩) ?_
      simp only [Act.put, List.setIfInBounds_toArray, List.set_cons_zero, List.set_cons_succ]
      refine head_pure undef (fun _ _ _ h => h) (Or.inr ⟨by rfl, rfl⟩) ?_
      simp only [Act.put, List.setIfInBounds_toArray, List.set_cons_zero, List.set_cons_succ]
      refine head_pure undef (fun _ _ _ h => h) (Or.inr ⟨by rfl, rfl⟩) ?_
      simp only [Act.put, List.setIfInBounds_toArray, List.set_cons_zero, List.set_cons_succ]
      refine head_pure undef (fun _ _ _ h => h) (Or.inr ⟨by rfl, rfl⟩) ?_
      simp only [Act.put, List.setIfInBounds_toArray, List.set_cons_zero, List.set_cons_succ]
      refine head_pure ?_ (fun _ _ _ h => h) (Or.inl ⟨by rfl, ?_⟩) ?_
      rotate_left
      · intro w; go_simp; first | done | with_reducible rfl
      simp only [Act.put, List.setIfInBounds_toArray, List.set_cons_zero, List.set_cons_succ]
      refine head_pure ?_ (fun _ _ _ h => h) (Or.inl ⟨by rfl, ?_⟩) ?_
      rotate_left
      · intro w; go_simp; first | done | with_reducible rfl
      simp only [Act.put, List.setIfInBounds_toArray, List.set_cons_zero, List.set_cons_succ]
      change wpList _ _ _ _ _ _
    all_goals go_wp2
    all_goals go_ret
    all_goals exact MayPost.no (fun hm => ha (hm.2.2.2.2.1 rfl).1) (by first | (apply kept_of; assumption) | exact (by refine Kept.below ?_; repeat (first | with_reducible exact Kept.refl _ | with_reducible exact hk | with_reducible refine Kept.alloc ?_ _ | with_reducible refine Kept.drew ?_ | with_reducible refine Kept.setCell ?_ (by simp; try omega) _)))
set_option maxRecDepth 100000 in
set_option maxHeartbeats 8000000 in
theorem May12_3 {f m ti a1 b1 b0 c1 c0 : Int} (n : Nat) (hn : n < 2 ^ 64) (h : EntR 12 f 3 m ti a1 n b1 b0 c1 c0) (w : World) :
    Calls Tryz.prog 9 #[entW 12 f 3 m ti a1 n b1 b0 c1 c0] w (MayPost 12 f 3 m ti a1 n b1 b0 c1 c0 w) := by
  have hk : Kept w.heap.size w w := Kept.refl w
  have hE := Known.nil w
  have hsz := @sizeK_le 3 n
  obtain ⟨q, hq⟩ : ∃ q : Int, limb 0 (if negK 3 n = true then 2 ^ 64 - sizeK 3 n else sizeK 3 n) = q := ⟨_, rfl⟩
  unfold entW
  by_cases ha : a1 = 0
  · subst ha
    go_enter Tryz.func9, Tryz.ntmps9
    go_wp2_with (first
      | (go_at_call 15; refine (operands12 _).mono ?_; rintro e w' ⟨rfl, rfl⟩)
      | (go_at_call 16; refine (Of27_any _ (by omega) n hn _).mono ?_; rintro e w' ⟨v, rfl, hN, hb⟩; replace hE : Known _ w' := Known.step hE (by refine Kept.below ?_; repeat (first | with_reducible exact Kept.refl _ | with_reducible refine Kept.alloc ?_ _ | with_reducible refine Kept.drew ?_ | with_reducible refine Kept.setCell ?_ (by simp) _)) hb; have hR := hE; (simp only [Known, and_true] at hR); replace hk : Kept w.heap.size w w' := Kept.step (by repeat (first | with_reducible exact hk | with_reducible refine Kept.alloc ?_ _ | with_reducible refine Kept.drew ?_ | with_reducible refine Kept.setCell ?_ (by simp; omega) _)) hb; have hz := hb.size; (try simp only [World.size_alloc, World.size_setCell] at hz); clear hb))
    all_goals first
      | (go_ret; exact MayPost.no (by
          intro hm
          obtain ⟨⟨_, q1, q2, q3, q4⟩, q5, q6, q7, q8, q9⟩ := hm
          have q6 := q6 (by decide)
          have q7 := q7 (by decide)
          first | omega | (simp_all; done) | (simp_all; omega)) (by refine Kept.below ?_; repeat (first | with_reducible exact Kept.refl _ | with_reducible exact hk | with_reducible refine Kept.alloc ?_ _ | with_reducible refine Kept.drew ?_ | with_reducible refine Kept.setCell ?_ (by simp; try omega) _)))
      | skip
    all_goals
      have hs : ∀ W W' : World, Below W.heap.size W W' → (Kept w.heap.size w W ∧ IsN W v (sizeK 3 n) ∧ w.heap.size < W.heap.size ∧ W.cell? ⟨w.heap.size, 5, none⟩ = some (.int .u64 0) ∧ W.cell? ⟨w.heap.size, 6, none⟩ = some (.int .u64 (n : Int))) → (Kept w.heap.size w W' ∧ IsN W' v (sizeK 3 n) ∧ w.heap.size < W'.heap.size ∧ W'.cell? ⟨w.heap.size, 5, none⟩ = some (.int .u64 0) ∧ W'.cell? ⟨w.heap.size, 6, none⟩ = some (.int .u64 (n : Int))) := fun W W' hb h => ⟨h.1.step hb, h.2.1.call hb, Nat.lt_of_lt_of_le h.2.2.1 hb.size, (hb.cell h.2.2.1).trans h.2.2.2.1, (hb.cell h.2.2.1).trans h.2.2.2.2⟩
      have HS := Lib.hid hs; clear hs
      go_region_held3 (fun W' => Kept w.heap.size w W' ∧ IsN W' v (sizeK 3 n) ∧ w.heap.size < W'.heap.size ∧ W'.cell? ⟨w.heap.size, 5, none⟩ = some (.int .u64 0) ∧ W'.cell? ⟨w.heap.size, 6, none⟩ = some (.int .u64 (n : Int)))
        ((first | (with_reducible exact HS.out _ _ (by assumption) (by assumption)) | assumption | (with_reducible exact HS.out _ _ ((Below.refl _ _).drew) (by assumption)) | exact ⟨by repeat (first | with_reducible assumption | with_reducible exact Kept.refl _ | with_reducible refine Kept.alloc ?_ _ | with_reducible refine Kept.drew ?_ | with_reducible refine Kept.setCell ?_ (by simp; try omega) _), (by first | assumption | exact hN), (by go_simp), (by go_simp), (by go_simp)⟩))
        (first
          | (go_at_call 17; refine (Signed_any _ _ (by first | exact hN.drew | exact hN) hsz).mono ?_; rintro e w' ⟨he, hb⟩; rw [hq] at he; subst he))
    all_goals go_wp2
    all_goals go_ret
    all_goals
      refine ⟨⟨_, rfl, ?_⟩, by apply kept_of; assumption⟩
      have hsh := signed_has (k := 3) (by omega) hn
      rw [hq] at hsh
      rw [beq_iff_eq, hsh]
      constructor
      · intro hh
        exact ⟨⟨by omega, by simp_all, by simp_all, by simp_all, by omega⟩, .inr (.inr (.inr rfl)), fun _ => ⟨by first | rfl | assumption | simp_all, by first | rfl | assumption | simp_all⟩, fun _ => ⟨by first | rfl | assumption | simp_all, by first | rfl | assumption | simp_all⟩, fun _ => ⟨rfl, hh⟩, fun hh => absurd rfl hh⟩
      · intro hm
        exact (hm.2.2.2.2.1 rfl).2
  · have ha0 : (a1 == 0) = false := by simp [ha]
    go_enter Tryz.func9, Tryz.ntmps9
    go_wp2_with (first
      | (go_at_call 15; refine (operands12 _).mono ?_; rintro e w' ⟨rfl, rfl⟩)
      | (go_at_call 16; refine (Of27_any _ (by omega) n hn _).mono ?_; rintro e w' ⟨v, rfl, hN, hb⟩; replace hE : Known _ w' := Known.step hE (by refine Kept.below ?_; repeat (first | with_reducible exact Kept.refl _ | with_reducible refine Kept.alloc ?_ _ | with_reducible refine Kept.drew ?_ | with_reducible refine Kept.setCell ?_ (by simp) _)) hb; have hR := hE; (simp only [Known, and_true] at hR); replace hk : Kept w.heap.size w w' := Kept.step (by repeat (first | with_reducible exact hk | with_reducible refine Kept.alloc ?_ _ | with_reducible refine Kept.drew ?_ | with_reducible refine Kept.setCell ?_ (by simp; omega) _)) hb; have hz := hb.size; (try simp only [World.size_alloc, World.size_setCell] at hz); clear hb))
    all_goals first
      | (go_ret; exact MayPost.no (by
          intro hm
          obtain ⟨⟨_, q1, q2, q3, q4⟩, q5, q6, q7, q8, q9⟩ := hm
          have q6 := q6 (by decide)
          have q7 := q7 (by decide)
          first | omega | (simp_all; done) | (simp_all; omega)) (by refine Kept.below ?_; repeat (first | with_reducible exact Kept.refl _ | with_reducible exact hk | with_reducible refine Kept.alloc ?_ _ | with_reducible refine Kept.drew ?_ | with_reducible refine Kept.setCell ?_ (by simp; try omega) _)))
      | skip
    all_goals
      refine wp_region_head 14 (fun W' => W'.cell? ⟨w.heap.size, 5, none⟩ = some (.int .u64 a1)) (by kernel_rfl) (by kernel_rfl) (by go_simp) ?_
      simp only [List.take_succ_cons, List.take_zero, List.drop_succ_cons, List.drop_zero]
      refine head_pure ?_ (fun _ _ _ h => h) (Or.inl ⟨by rfl, ?_⟩) ?_
      rotate_left
      · intro w; go_simp; first | done | with_reducible rfl
      simp only [Act.put, List.setIfInBounds_toArray, List.set_cons_zero, List.set_cons_succ]
      refine head_pure ?_ (fun _ _ _ h => h) (Or.inl ⟨by rfl, ?_⟩) ?_
      rotate_left
      · intro w; go_simp; first | done | with_reducible rfl
      simp only [Act.put, List.setIfInBounds_toArray, List.set_cons_zero, List.set_cons_succ]
      refine head_read ?_ (by kernel_rfl) (fun _ _ _ h => h) (Or.inl ⟨by rfl, ?_⟩) ?_
      rotate_left
      · intro w hS; (try dsimp only at hS); go_simp; first | done | with_reducible rfl
      simp only [Act.put, List.setIfInBounds_toArray, List.set_cons_zero, List.set_cons_succ]
      refine head_pure (.bool false) (fun _ _ _ h => h) (Or.inl ⟨by rfl, ?_⟩) ?_
      · intro w; go_simp; first | done | (rw [ha0]; done) | (simp [ha0]; done) | (rw [ha0]; rfl)
      simp only [Act.put, List.setIfInBounds_toArray, List.set_cons_zero, List.set_cons_succ]
      refine head_pure ?_ (fun _ _ _ h => h) (Or.inl ⟨by rfl, ?_⟩) ?_
      rotate_left
      · intro w; go_simp; first | done | with_reducible rfl
      simp only [Act.put, List.setIfInBounds_toArray, List.set_cons_zero, List.set_cons_succ]
      refine head_pure undef (fun _ _ _ h => h) (Or.inr ⟨by rfl, rfl⟩) ?_
      simp only [Act.put, List.setIfInBounds_toArray, List.set_cons_zero, List.set_cons_succ]
      refine head_pure undef (fun _ _ _ h => h) (Or.inr ⟨by rfl, rfl⟩) ?_
      simp only [Act.put, List.setIfInBounds_toArray, List.set_cons_zero, List.set_cons_succ]
      refine head_pure undef (fun _ _ _ h => h) (Or.inr ⟨by rfl, rfl⟩) ?_
      simp only [Act.put, List.setIfInBounds_toArray, List.set_cons_zero, List.set_cons_succ]
      refine head_pure undef (fun _ _ _ h => h) (Or.inr ⟨by rfl, rfl⟩) ?_
      simp only [Act.put, List.setIfInBounds_toArray, List.set_cons_zero, List.set_cons_succ]
      refine head_pure undef (fun _ _ _ h => h) (Or.inr ⟨by rfl, rfl⟩) ?_
      simp only [Act.put, List.setIfInBounds_toArray, List.set_cons_zero, List.set_cons_succ]
      refine head_pure undef (fun _ _ _ h => h) (Or.inr ⟨by rfl, rfl⟩) ?_
      simp only [Act.put, List.setIfInBounds_toArray, List.set_cons_zero, List.set_cons_succ]
      refine head_pure undef (fun _ _ _ h => h) (Or.inr ⟨by rfl, rfl⟩) ?_
      simp only [Act.put, List.setIfInBounds_toArray, List.set_cons_zero, List.set_cons_succ]
      refine head_pure ?_ (fun _ _ _ h => h) (Or.inl ⟨by rfl, ?_⟩) ?_
      rotate_left
      · intro w; go_simp; first | done | with_reducible rfl
      simp only [Act.put, List.setIfInBounds_toArray, List.set_cons_zero, List.set_cons_succ]
      refine head_pure ?_ (fun _ _ _ h => h) (Or.inl ⟨by rfl, ?_⟩) ?_
      rotate_left
      · intro w; go_simp; first | done | with_reducible rfl
      simp only [Act.put, List.setIfInBounds_toArray, List.set_cons_zero, List.set_cons_succ]
      change wpList _ _ _ _ _ _
    all_goals go_wp2
    all_goals go_ret
    all_goals exact MayPost.no (fun hm => ha (hm.2.2.2.2.1 rfl).1) (by first | (apply kept_of; assumption) | exact (by refine Kept.below ?_; repeat (first | with_reducible exact Kept.refl _ | with_reducible exact hk | with_reducible refine Kept.alloc ?_ _ | with_reducible refine Kept.drew ?_ | with_reducible refine Kept.setCell ?_ (by simp; try omega) _)))
set_option maxRecDepth 100000 in
set_option maxHeartbeats 8000000 in
theorem May12_4 {f to m ti a1 b1 b0 c1 c0 : Int} (n : Nat) (hto : 4 ≤ to) (h : EntR 12 f to m ti a1 n b1 b0 c1 c0) (w : World) :
    Calls Tryz.prog 9 #[entW 12 f to m ti a1 n b1 b0 c1 c0] w (MayPost 12 f to m ti a1 n b1 b0 c1 c0 w) := by
  have hk : Kept w.heap.size w w := Kept.refl w
  have h3 : 3 < to := by omega
  unfold entW
  go_enter Tryz.func9, Tryz.ntmps9
  go_wp2
  all_goals go_ret
  all_goals exact MayPost.no (fun hm => by have := hm.1.2.2.2.2; omega) (by refine Kept.below ?_; repeat (first | with_reducible exact Kept.refl _ | with_reducible exact hk | with_reducible refine Kept.alloc ?_ _ | with_reducible refine Kept.drew ?_ | with_reducible refine Kept.setCell ?_ (by simp; try omega) _))
theorem May12 {f to m ti a1 a0 b1 b0 c1 c0 : Int} (h : EntR 12 f to m ti a1 a0 b1 b0 c1 c0) (w : World) :
    Calls Tryz.prog 9 #[entW 12 f to m ti a1 a0 b1 b0 c1 c0] w (MayPost 12 f to m ti a1 a0 b1 b0 c1 c0 w) := by
  obtain ⟨n, rfl⟩ := Int.eq_ofNat_of_zero_le h.a0.lo
  have hn : n < 2 ^ 64 := by have := h.a0.hi; omega
  have kinds : (4 : Int) ≤ to ∨ to = 0 ∨ to = 1 ∨ to = 2 ∨ to = 3 := by have := h.to; omega
  rcases kinds with h4 | rfl | rfl | rfl | rfl
  · exact May12_4 n h4 h w
  · exact May12_0 n hn h w
  · exact May12_1 n hn h w
  · exact May12_2 n hn h w
  · exact May12_3 n hn h w
end Go.Proofs.YtpfoifflfgiaoaaGreatDoor
