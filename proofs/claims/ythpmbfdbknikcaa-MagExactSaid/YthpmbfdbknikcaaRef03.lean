/- The references of layer 3: contracts. -/
import Derived.Test.YthpmbfdbknikcaaRefAll
import Derived.Test.YthpmbfdbknikcaaRegionG
import Derived.Test.YthpmbfdbknikcaaNum3
import Derived.Test.YthpmbfdbknikcaaShift4
set_option linter.unusedVariables false
set_option linter.unusedSimpArgs false
namespace Go.Proofs.Ythpmbfdbknikcaa
open Go.RowKit

/-- how far: at least 0, at most 300 -/
def nearI (n : Int) : Int := if n < 0 then 0 else if 300 < n then 300 else n
theorem near_nat (n : Int) : ∃ k : Nat, nearI n = (k : Int) ∧ k ≤ 300 ∧ (capI n).toNat = k := by
  unfold nearI capI
  by_cases h : n < 0
  · exact ⟨0, by rw [if_pos h]; rfl, by omega, by rw [if_neg (by omega)]; omega⟩
  · by_cases h2 : 300 < n
    · exact ⟨300, by rw [if_neg h, if_pos h2]; rfl, by omega, by rw [if_pos h2]; rfl⟩
    · exact ⟨n.toNat, by rw [if_neg h, if_neg h2]; omega, by omega, by rw [if_neg h2]⟩
theorem refOf_one (w : World) : Calls Try.prog 35 #[.int .u64 1] w fun e w' => ∃ u, e = .returned u ∧ IsN w' u 1 ∧ Below w.heap.size w w' := refOf_any 1 (by decide) w
theorem near_id {n : Int} (h0 : 0 ≤ n) (h1 : n ≤ 300) : nearI n = n := by unfold nearI; rw [if_neg (by omega), if_neg (by omega)]
set_option maxRecDepth 100000 in
set_option maxHeartbeats 8000000 in
theorem near_any (n : Int) (w : World) :
    Calls Try.prog 82 #[.int .i64 n] w fun e w' => e = .returned (.int .i64 (nearI n)) ∧ Below w.heap.size w w' := by
  by_cases h1 : n < 0
  · have HE : nearI n = 0 := by unfold nearI; rw [if_pos h1]
    rw [HE]; clear HE
    go_enter Try.func82, Try.ntmps82
    go_wp2
    all_goals go_ret
    all_goals exact ⟨ret_int (by omega), Below.refl _ _⟩
  · by_cases h2 : 300 < n
    · have HE : nearI n = 300 := by unfold nearI; rw [if_neg h1, if_pos h2]
      rw [HE]; clear HE
      go_enter Try.func82, Try.ntmps82
      go_wp2
      all_goals go_ret
      all_goals exact ⟨ret_int (by omega), Below.refl _ _⟩
    · have HE : nearI n = n := by unfold nearI; rw [if_neg h1, if_neg h2]
      rw [HE]; clear HE
      go_enter Try.func82, Try.ntmps82
      go_wp2
      all_goals go_ret
      all_goals exact ⟨ret_int (by omega), Below.refl _ _⟩
set_option maxRecDepth 100000 in
set_option maxHeartbeats 8000000 in
theorem refRight3 {v : Value} {A k : Nat} {n : Int} (hK : nearI n = (k : Int)) (hk3 : k ≤ 300) {w : World} (nA : IsN w v A) (hl : lenN A ≤ 64) :
    Calls Try.prog 68 #[v, .int .i64 n] w fun e w' => ∃ u, e = .returned u ∧ IsN w' u (A / 2 ^ k) ∧ Below w.heap.size w w' := by
  have hk := Kept.refl w
  have HK := Lib.hid hK
  have lf0 := lenN_div (A := A) (n := k)
  clear hK
  go_enter Try.func68, Try.ntmps68
  go_wp2_with fail
  (with_reducible refine (calls_to (V := .int .i64 ((k : Int))) (near_any n _) (by rw [HK.out])).mono ?_)
  rintro e w1 ⟨rfl, hb⟩
  have nA' : IsN w1 v (A) := (IsN.kept nA (by repeat (first | with_reducible exact Kept.refl _ | with_reducible refine Kept.alloc ?_ _ | with_reducible refine Kept.drew ?_ | with_reducible refine Kept.setCell ?_ (by simp only [World.size_alloc, World.size_setCell, World.size_drew]; omega) _))).call hb
  have hk' : Kept w.heap.size w w1 := Kept.step (by repeat (first | with_reducible exact hk | with_reducible exact Kept.refl _ | with_reducible refine Kept.alloc ?_ _ | with_reducible refine Kept.drew ?_ | with_reducible refine Kept.setCell ?_ (by simp only [World.size_alloc, World.size_setCell, World.size_drew]; omega) _)) hb
  clear hk hb
  clear nA
  have nA := nA'
  clear nA'
  have hk := hk'
  clear hk'
  have hz_w1 := hk.size
  go_wp2_with fail
  (with_reducible refine (refShr_any k rfl (by omega) _ (IsN.kept nA (by repeat (first | with_reducible exact Kept.refl _ | with_reducible refine Kept.alloc ?_ _ | with_reducible refine Kept.drew ?_ | with_reducible refine Kept.setCell ?_ (by simp only [World.size_alloc, World.size_setCell, World.size_drew]; omega) _))) (by omega)).mono ?_)
  rintro e w2 ⟨vN1, rfl, N1_, hb⟩
  have nA' : IsN w2 v (A) := (IsN.kept nA (by repeat (first | with_reducible exact Kept.refl _ | with_reducible refine Kept.alloc ?_ _ | with_reducible refine Kept.drew ?_ | with_reducible refine Kept.setCell ?_ (by simp only [World.size_alloc, World.size_setCell, World.size_drew]; omega) _))).call hb
  have hk' : Kept w.heap.size w w2 := Kept.step (by repeat (first | with_reducible exact hk | with_reducible exact Kept.refl _ | with_reducible refine Kept.alloc ?_ _ | with_reducible refine Kept.drew ?_ | with_reducible refine Kept.setCell ?_ (by simp only [World.size_alloc, World.size_setCell, World.size_drew]; omega) _)) hb
  clear hk hb
  clear nA
  have nA := nA'
  clear nA'
  have hk := hk'
  clear hk'
  have hz_w2 := hk.size
  have N1 : IsN w2 vN1 (A / 2 ^ k) := N1_
  clear N1_
  go_wp2
  go_ret
  exact ⟨_, rfl, (by exact IsN.kept N1 (by repeat (first | with_reducible exact Kept.refl _ | with_reducible refine Kept.alloc ?_ _ | with_reducible refine Kept.drew ?_ | with_reducible refine Kept.setCell ?_ (by simp only [World.size_alloc, World.size_setCell, World.size_drew]; omega) _))), (by refine Kept.below ?_; repeat (first | with_reducible exact hk | with_reducible exact Kept.refl _ | with_reducible refine Kept.alloc ?_ _ | with_reducible refine Kept.drew ?_ | with_reducible refine Kept.setCell ?_ (by simp only [World.size_alloc, World.size_setCell, World.size_drew]; omega) _))⟩

set_option maxRecDepth 100000 in
set_option maxHeartbeats 8000000 in
theorem refLost3_1 {v : Value} {A k : Nat} {n : Int} (hK : nearI n = (k : Int)) (hk3 : k ≤ 300) {w : World} (nA : IsN w v A) (hl : lenN A ≤ 64) (hb : ¬ A % 2 ^ k = 0) :
    Calls Try.prog 69 #[v, .int .i64 n] w fun e w' => e = .returned (.bool true) ∧ Below w.heap.size w w' := by
  have hk := Kept.refl w
  have HK := Lib.hid hK
  have z : 0 < lenN (A % 2 ^ k) := by have := @lenN_eq_zero (A % 2 ^ k); omega
  clear hb
  have lf0 := lenN_mod A (2 ^ k)
  clear hK
  go_enter Try.func69, Try.ntmps69
  go_wp2_with fail
  (with_reducible refine (calls_to (V := .int .i64 ((k : Int))) (near_any n _) (by rw [HK.out])).mono ?_)
  rintro e w1 ⟨rfl, hb⟩
  have nA' : IsN w1 v (A) := (IsN.kept nA (by repeat (first | with_reducible exact Kept.refl _ | with_reducible refine Kept.alloc ?_ _ | with_reducible refine Kept.drew ?_ | with_reducible refine Kept.setCell ?_ (by simp only [World.size_alloc, World.size_setCell, World.size_drew]; omega) _))).call hb
  have hk' : Kept w.heap.size w w1 := Kept.step (by repeat (first | with_reducible exact hk | with_reducible exact Kept.refl _ | with_reducible refine Kept.alloc ?_ _ | with_reducible refine Kept.drew ?_ | with_reducible refine Kept.setCell ?_ (by simp only [World.size_alloc, World.size_setCell, World.size_drew]; omega) _)) hb
  clear hk hb
  clear nA
  have nA := nA'
  clear nA'
  have hk := hk'
  clear hk'
  have hz_w1 := hk.size
  go_wp2_with fail
  (with_reducible refine (refCut_any k rfl (by omega) _ (IsN.kept nA (by repeat (first | with_reducible exact Kept.refl _ | with_reducible refine Kept.alloc ?_ _ | with_reducible refine Kept.drew ?_ | with_reducible refine Kept.setCell ?_ (by simp only [World.size_alloc, World.size_setCell, World.size_drew]; omega) _))) (by omega)).mono ?_)
  rintro e w2 ⟨vN1, rfl, N1_, hb⟩
  have nA' : IsN w2 v (A) := (IsN.kept nA (by repeat (first | with_reducible exact Kept.refl _ | with_reducible refine Kept.alloc ?_ _ | with_reducible refine Kept.drew ?_ | with_reducible refine Kept.setCell ?_ (by simp only [World.size_alloc, World.size_setCell, World.size_drew]; omega) _))).call hb
  have hk' : Kept w.heap.size w w2 := Kept.step (by repeat (first | with_reducible exact hk | with_reducible exact Kept.refl _ | with_reducible refine Kept.alloc ?_ _ | with_reducible refine Kept.drew ?_ | with_reducible refine Kept.setCell ?_ (by simp only [World.size_alloc, World.size_setCell, World.size_drew]; omega) _)) hb
  clear hk hb
  clear nA
  have nA := nA'
  clear nA'
  have hk := hk'
  clear hk'
  have hz_w2 := hk.size
  have N1 : IsN w2 vN1 (A % 2 ^ k) := N1_
  clear N1_
  obtain ⟨ad_1, c_1, e_1, _, _⟩ := N1.open
  subst e_1
  go_wp2
  go_ret
  exact ⟨rfl, (by refine Kept.below ?_; repeat (first | with_reducible exact hk | with_reducible exact Kept.refl _ | with_reducible refine Kept.alloc ?_ _ | with_reducible refine Kept.drew ?_ | with_reducible refine Kept.setCell ?_ (by simp only [World.size_alloc, World.size_setCell, World.size_drew]; omega) _))⟩

set_option maxRecDepth 100000 in
set_option maxHeartbeats 8000000 in
theorem refLost3_0 {v : Value} {A k : Nat} {n : Int} (hK : nearI n = (k : Int)) (hk3 : k ≤ 300) {w : World} (nA : IsN w v A) (hl : lenN A ≤ 64) (hb : A % 2 ^ k = 0) :
    Calls Try.prog 69 #[v, .int .i64 n] w fun e w' => e = .returned (.bool false) ∧ Below w.heap.size w w' := by
  have hk := Kept.refl w
  have HK := Lib.hid hK
  have z : ¬ 0 < lenN (A % 2 ^ k) := by rw [hb, lenN_zero]; omega
  clear hb
  have lf0 := lenN_mod A (2 ^ k)
  clear hK
  go_enter Try.func69, Try.ntmps69
  go_wp2_with fail
  (with_reducible refine (calls_to (V := .int .i64 ((k : Int))) (near_any n _) (by rw [HK.out])).mono ?_)
  rintro e w1 ⟨rfl, hb⟩
  have nA' : IsN w1 v (A) := (IsN.kept nA (by repeat (first | with_reducible exact Kept.refl _ | with_reducible refine Kept.alloc ?_ _ | with_reducible refine Kept.drew ?_ | with_reducible refine Kept.setCell ?_ (by simp only [World.size_alloc, World.size_setCell, World.size_drew]; omega) _))).call hb
  have hk' : Kept w.heap.size w w1 := Kept.step (by repeat (first | with_reducible exact hk | with_reducible exact Kept.refl _ | with_reducible refine Kept.alloc ?_ _ | with_reducible refine Kept.drew ?_ | with_reducible refine Kept.setCell ?_ (by simp only [World.size_alloc, World.size_setCell, World.size_drew]; omega) _)) hb
  clear hk hb
  clear nA
  have nA := nA'
  clear nA'
  have hk := hk'
  clear hk'
  have hz_w1 := hk.size
  go_wp2_with fail
  (with_reducible refine (refCut_any k rfl (by omega) _ (IsN.kept nA (by repeat (first | with_reducible exact Kept.refl _ | with_reducible refine Kept.alloc ?_ _ | with_reducible refine Kept.drew ?_ | with_reducible refine Kept.setCell ?_ (by simp only [World.size_alloc, World.size_setCell, World.size_drew]; omega) _))) (by omega)).mono ?_)
  rintro e w2 ⟨vN1, rfl, N1_, hb⟩
  have nA' : IsN w2 v (A) := (IsN.kept nA (by repeat (first | with_reducible exact Kept.refl _ | with_reducible refine Kept.alloc ?_ _ | with_reducible refine Kept.drew ?_ | with_reducible refine Kept.setCell ?_ (by simp only [World.size_alloc, World.size_setCell, World.size_drew]; omega) _))).call hb
  have hk' : Kept w.heap.size w w2 := Kept.step (by repeat (first | with_reducible exact hk | with_reducible exact Kept.refl _ | with_reducible refine Kept.alloc ?_ _ | with_reducible refine Kept.drew ?_ | with_reducible refine Kept.setCell ?_ (by simp only [World.size_alloc, World.size_setCell, World.size_drew]; omega) _)) hb
  clear hk hb
  clear nA
  have nA := nA'
  clear nA'
  have hk := hk'
  clear hk'
  have hz_w2 := hk.size
  have N1 : IsN w2 vN1 (A % 2 ^ k) := N1_
  clear N1_
  obtain ⟨ad_1, c_1, e_1, _, _⟩ := N1.open
  subst e_1
  go_wp2
  go_ret
  exact ⟨rfl, (by refine Kept.below ?_; repeat (first | with_reducible exact hk | with_reducible exact Kept.refl _ | with_reducible refine Kept.alloc ?_ _ | with_reducible refine Kept.drew ?_ | with_reducible refine Kept.setCell ?_ (by simp only [World.size_alloc, World.size_setCell, World.size_drew]; omega) _))⟩

theorem refLost3 {v : Value} {A k : Nat} {n : Int} (hK : nearI n = (k : Int)) (hk3 : k ≤ 300) {w : World} (nA : IsN w v A) (hl : lenN A ≤ 64) :
    Calls Try.prog 69 #[v, .int .i64 n] w fun e w' => e = .returned (.bool (lostB A (k : Int))) ∧ Below w.heap.size w w' := by
  by_cases hb : A % 2 ^ k = 0
  · rw [show lostB A (k : Int) = false by unfold lostB; simp [hb]]; exact refLost3_0 hK hk3 nA hl hb
  · rw [show lostB A (k : Int) = true by unfold lostB; simp [hb]]; exact refLost3_1 hK hk3 nA hl hb
set_option maxRecDepth 100000 in
set_option maxHeartbeats 8000000 in
theorem refJam3_add {v : Value} {A k : Nat} {n : Int} (hK : nearI n = (k : Int)) (hk3 : k ≤ 300) {w : World} (nA : IsN w v A) (hl : lenN A ≤ 64) (hb : lostB A (k : Int) = true) (ho : bitZ (A / 2 ^ k) 0 = false) (hj : jamN A (k : Int) = (A / 2 ^ k) + 1) :
    Calls Try.prog 48 #[v, .int .i64 n] w fun e w' => ∃ u, e = .returned u ∧ IsN w' u (jamN A (k : Int)) ∧ Below w.heap.size w w' := by
  have hk := Kept.refl w
  have HK := Lib.hid hK
  have HL := Lib.hid hb
  have HJ := Lib.hid hj
  have HO := Lib.hid ho
  have lf0 := lenN_div (A := A) (n := k)
  have lf1 := len64 (show 1 < 2 ^ 64 by omega)
  have lf2 := lenN_add (A / 2 ^ k) 1
  clear hK hb hj ho
  go_enter Try.func48, Try.ntmps48
  go_wp2_with fail
  (with_reducible refine (refRight3 HK.out hk3 (IsN.kept nA (by repeat (first | with_reducible exact Kept.refl _ | with_reducible refine Kept.alloc ?_ _ | with_reducible refine Kept.drew ?_ | with_reducible refine Kept.setCell ?_ (by simp only [World.size_alloc, World.size_setCell, World.size_drew]; omega) _))) (by omega)).mono ?_)
  rintro e w1 ⟨vN1, rfl, N1_, hb⟩
  have nA' : IsN w1 v (A) := (IsN.kept nA (by repeat (first | with_reducible exact Kept.refl _ | with_reducible refine Kept.alloc ?_ _ | with_reducible refine Kept.drew ?_ | with_reducible refine Kept.setCell ?_ (by simp only [World.size_alloc, World.size_setCell, World.size_drew]; omega) _))).call hb
  have hk' : Kept w.heap.size w w1 := Kept.step (by repeat (first | with_reducible exact hk | with_reducible exact Kept.refl _ | with_reducible refine Kept.alloc ?_ _ | with_reducible refine Kept.drew ?_ | with_reducible refine Kept.setCell ?_ (by simp only [World.size_alloc, World.size_setCell, World.size_drew]; omega) _)) hb
  clear hk hb
  clear nA
  have nA := nA'
  clear nA'
  have hk := hk'
  clear hk'
  have hz_w1 := hk.size
  have N1 : IsN w1 vN1 (A / 2 ^ k) := N1_
  clear N1_
  go_wp2_with fail
  (with_reducible refine (calls_to (V := .bool true) (refLost3 HK.out hk3 (IsN.kept nA (by repeat (first | with_reducible exact Kept.refl _ | with_reducible refine Kept.alloc ?_ _ | with_reducible refine Kept.drew ?_ | with_reducible refine Kept.setCell ?_ (by simp only [World.size_alloc, World.size_setCell, World.size_drew]; omega) _))) (by omega)) (by rw [HL.out])).mono ?_)
  rintro e w2 ⟨rfl, hb⟩
  have nA' : IsN w2 v (A) := (IsN.kept nA (by repeat (first | with_reducible exact Kept.refl _ | with_reducible refine Kept.alloc ?_ _ | with_reducible refine Kept.drew ?_ | with_reducible refine Kept.setCell ?_ (by simp only [World.size_alloc, World.size_setCell, World.size_drew]; omega) _))).call hb
  have N1' : IsN w2 vN1 (A / 2 ^ k) := (IsN.kept N1 (by repeat (first | with_reducible exact Kept.refl _ | with_reducible refine Kept.alloc ?_ _ | with_reducible refine Kept.drew ?_ | with_reducible refine Kept.setCell ?_ (by simp only [World.size_alloc, World.size_setCell, World.size_drew]; omega) _))).call hb
  have hk' : Kept w.heap.size w w2 := Kept.step (by repeat (first | with_reducible exact hk | with_reducible exact Kept.refl _ | with_reducible refine Kept.alloc ?_ _ | with_reducible refine Kept.drew ?_ | with_reducible refine Kept.setCell ?_ (by simp only [World.size_alloc, World.size_setCell, World.size_drew]; omega) _)) hb
  clear hk hb
  clear nA
  have nA := nA'
  clear nA'
  clear N1
  have N1 := N1'
  clear N1'
  have hk := hk'
  clear hk'
  have hz_w2 := hk.size
  clear nA
  go_wp2_with fail
  (with_reducible refine (calls_to (V := .bool false) (refBit_w 0 (by omega) (IsN.kept N1 (by repeat (first | with_reducible exact Kept.refl _ | with_reducible refine Kept.alloc ?_ _ | with_reducible refine Kept.drew ?_ | with_reducible refine Kept.setCell ?_ (by simp only [World.size_alloc, World.size_setCell, World.size_drew]; omega) _))) (by omega)) (by rw [HO.out])).mono ?_)
  rintro e w3 ⟨rfl, hb⟩
  have N1' : IsN w3 vN1 (A / 2 ^ k) := (IsN.kept N1 (by repeat (first | with_reducible exact Kept.refl _ | with_reducible refine Kept.alloc ?_ _ | with_reducible refine Kept.drew ?_ | with_reducible refine Kept.setCell ?_ (by simp only [World.size_alloc, World.size_setCell, World.size_drew]; omega) _))).call hb
  have hk' : Kept w.heap.size w w3 := Kept.step (by repeat (first | with_reducible exact hk | with_reducible exact Kept.refl _ | with_reducible refine Kept.alloc ?_ _ | with_reducible refine Kept.drew ?_ | with_reducible refine Kept.setCell ?_ (by simp only [World.size_alloc, World.size_setCell, World.size_drew]; omega) _)) hb
  clear hk hb
  clear N1
  have N1 := N1'
  clear N1'
  have hk := hk'
  clear hk'
  have hz_w3 := hk.size
  go_wp2_with fail
  (with_reducible refine (refOf_one _).mono ?_)
  rintro e w4 ⟨vN2, rfl, N2_, hb⟩
  have N1' : IsN w4 vN1 (A / 2 ^ k) := (IsN.kept N1 (by repeat (first | with_reducible exact Kept.refl _ | with_reducible refine Kept.alloc ?_ _ | with_reducible refine Kept.drew ?_ | with_reducible refine Kept.setCell ?_ (by simp only [World.size_alloc, World.size_setCell, World.size_drew]; omega) _))).call hb
  have hk' : Kept w.heap.size w w4 := Kept.step (by repeat (first | with_reducible exact hk | with_reducible exact Kept.refl _ | with_reducible refine Kept.alloc ?_ _ | with_reducible refine Kept.drew ?_ | with_reducible refine Kept.setCell ?_ (by simp only [World.size_alloc, World.size_setCell, World.size_drew]; omega) _)) hb
  clear hk hb
  clear N1
  have N1 := N1'
  clear N1'
  have hk := hk'
  clear hk'
  have hz_w4 := hk.size
  have N2 : IsN w4 vN2 (1) := N2_
  clear N2_
  go_wp2_with fail
  (with_reducible refine (refAdd_any _ (IsN.kept N1 (by repeat (first | with_reducible exact Kept.refl _ | with_reducible refine Kept.alloc ?_ _ | with_reducible refine Kept.drew ?_ | with_reducible refine Kept.setCell ?_ (by simp only [World.size_alloc, World.size_setCell, World.size_drew]; omega) _))) (IsN.kept N2 (by repeat (first | with_reducible exact Kept.refl _ | with_reducible refine Kept.alloc ?_ _ | with_reducible refine Kept.drew ?_ | with_reducible refine Kept.setCell ?_ (by simp only [World.size_alloc, World.size_setCell, World.size_drew]; omega) _))) (by omega) (by omega)).mono ?_)
  rintro e w5 ⟨vN3, rfl, N3_, hb⟩
  have N1' : IsN w5 vN1 (A / 2 ^ k) := (IsN.kept N1 (by repeat (first | with_reducible exact Kept.refl _ | with_reducible refine Kept.alloc ?_ _ | with_reducible refine Kept.drew ?_ | with_reducible refine Kept.setCell ?_ (by simp only [World.size_alloc, World.size_setCell, World.size_drew]; omega) _))).call hb
  have N2' : IsN w5 vN2 (1) := (IsN.kept N2 (by repeat (first | with_reducible exact Kept.refl _ | with_reducible refine Kept.alloc ?_ _ | with_reducible refine Kept.drew ?_ | with_reducible refine Kept.setCell ?_ (by simp only [World.size_alloc, World.size_setCell, World.size_drew]; omega) _))).call hb
  have hk' : Kept w.heap.size w w5 := Kept.step (by repeat (first | with_reducible exact hk | with_reducible exact Kept.refl _ | with_reducible refine Kept.alloc ?_ _ | with_reducible refine Kept.drew ?_ | with_reducible refine Kept.setCell ?_ (by simp only [World.size_alloc, World.size_setCell, World.size_drew]; omega) _)) hb
  clear hk hb
  clear N1
  have N1 := N1'
  clear N1'
  clear N2
  have N2 := N2'
  clear N2'
  have hk := hk'
  clear hk'
  have hz_w5 := hk.size
  have N3 : IsN w5 vN3 ((A / 2 ^ k) + 1) := N3_
  clear N3_
  go_wp2
  go_ret
  exact ⟨_, rfl, (by rw [HJ.out]; exact IsN.kept N3 (by repeat (first | with_reducible exact Kept.refl _ | with_reducible refine Kept.alloc ?_ _ | with_reducible refine Kept.drew ?_ | with_reducible refine Kept.setCell ?_ (by simp only [World.size_alloc, World.size_setCell, World.size_drew]; omega) _))), (by refine Kept.below ?_; repeat (first | with_reducible exact hk | with_reducible exact Kept.refl _ | with_reducible refine Kept.alloc ?_ _ | with_reducible refine Kept.drew ?_ | with_reducible refine Kept.setCell ?_ (by simp only [World.size_alloc, World.size_setCell, World.size_drew]; omega) _))⟩

set_option maxRecDepth 100000 in
set_option maxHeartbeats 8000000 in
theorem refJam3_odd {v : Value} {A k : Nat} {n : Int} (hK : nearI n = (k : Int)) (hk3 : k ≤ 300) {w : World} (nA : IsN w v A) (hl : lenN A ≤ 64) (hb : lostB A (k : Int) = true) (ho : bitZ (A / 2 ^ k) 0 = true) (hj : jamN A (k : Int) = A / 2 ^ k) :
    Calls Try.prog 48 #[v, .int .i64 n] w fun e w' => ∃ u, e = .returned u ∧ IsN w' u (jamN A (k : Int)) ∧ Below w.heap.size w w' := by
  have hk := Kept.refl w
  have HK := Lib.hid hK
  have HL := Lib.hid hb
  have HJ := Lib.hid hj
  have HO := Lib.hid ho
  have lf0 := lenN_div (A := A) (n := k)
  clear hK hb hj ho
  go_enter Try.func48, Try.ntmps48
  go_wp2_with fail
  (with_reducible refine (refRight3 HK.out hk3 (IsN.kept nA (by repeat (first | with_reducible exact Kept.refl _ | with_reducible refine Kept.alloc ?_ _ | with_reducible refine Kept.drew ?_ | with_reducible refine Kept.setCell ?_ (by simp only [World.size_alloc, World.size_setCell, World.size_drew]; omega) _))) (by omega)).mono ?_)
  rintro e w1 ⟨vN1, rfl, N1_, hb⟩
  have nA' : IsN w1 v (A) := (IsN.kept nA (by repeat (first | with_reducible exact Kept.refl _ | with_reducible refine Kept.alloc ?_ _ | with_reducible refine Kept.drew ?_ | with_reducible refine Kept.setCell ?_ (by simp only [World.size_alloc, World.size_setCell, World.size_drew]; omega) _))).call hb
  have hk' : Kept w.heap.size w w1 := Kept.step (by repeat (first | with_reducible exact hk | with_reducible exact Kept.refl _ | with_reducible refine Kept.alloc ?_ _ | with_reducible refine Kept.drew ?_ | with_reducible refine Kept.setCell ?_ (by simp only [World.size_alloc, World.size_setCell, World.size_drew]; omega) _)) hb
  clear hk hb
  clear nA
  have nA := nA'
  clear nA'
  have hk := hk'
  clear hk'
  have hz_w1 := hk.size
  have N1 : IsN w1 vN1 (A / 2 ^ k) := N1_
  clear N1_
  go_wp2_with fail
  (with_reducible refine (calls_to (V := .bool true) (refLost3 HK.out hk3 (IsN.kept nA (by repeat (first | with_reducible exact Kept.refl _ | with_reducible refine Kept.alloc ?_ _ | with_reducible refine Kept.drew ?_ | with_reducible refine Kept.setCell ?_ (by simp only [World.size_alloc, World.size_setCell, World.size_drew]; omega) _))) (by omega)) (by rw [HL.out])).mono ?_)
  rintro e w2 ⟨rfl, hb⟩
  have nA' : IsN w2 v (A) := (IsN.kept nA (by repeat (first | with_reducible exact Kept.refl _ | with_reducible refine Kept.alloc ?_ _ | with_reducible refine Kept.drew ?_ | with_reducible refine Kept.setCell ?_ (by simp only [World.size_alloc, World.size_setCell, World.size_drew]; omega) _))).call hb
  have N1' : IsN w2 vN1 (A / 2 ^ k) := (IsN.kept N1 (by repeat (first | with_reducible exact Kept.refl _ | with_reducible refine Kept.alloc ?_ _ | with_reducible refine Kept.drew ?_ | with_reducible refine Kept.setCell ?_ (by simp only [World.size_alloc, World.size_setCell, World.size_drew]; omega) _))).call hb
  have hk' : Kept w.heap.size w w2 := Kept.step (by repeat (first | with_reducible exact hk | with_reducible exact Kept.refl _ | with_reducible refine Kept.alloc ?_ _ | with_reducible refine Kept.drew ?_ | with_reducible refine Kept.setCell ?_ (by simp only [World.size_alloc, World.size_setCell, World.size_drew]; omega) _)) hb
  clear hk hb
  clear nA
  have nA := nA'
  clear nA'
  clear N1
  have N1 := N1'
  clear N1'
  have hk := hk'
  clear hk'
  have hz_w2 := hk.size
  clear nA
  go_wp2_with fail
  (with_reducible refine (calls_to (V := .bool true) (refBit_w 0 (by omega) (IsN.kept N1 (by repeat (first | with_reducible exact Kept.refl _ | with_reducible refine Kept.alloc ?_ _ | with_reducible refine Kept.drew ?_ | with_reducible refine Kept.setCell ?_ (by simp only [World.size_alloc, World.size_setCell, World.size_drew]; omega) _))) (by omega)) (by rw [HO.out])).mono ?_)
  rintro e w3 ⟨rfl, hb⟩
  have N1' : IsN w3 vN1 (A / 2 ^ k) := (IsN.kept N1 (by repeat (first | with_reducible exact Kept.refl _ | with_reducible refine Kept.alloc ?_ _ | with_reducible refine Kept.drew ?_ | with_reducible refine Kept.setCell ?_ (by simp only [World.size_alloc, World.size_setCell, World.size_drew]; omega) _))).call hb
  have hk' : Kept w.heap.size w w3 := Kept.step (by repeat (first | with_reducible exact hk | with_reducible exact Kept.refl _ | with_reducible refine Kept.alloc ?_ _ | with_reducible refine Kept.drew ?_ | with_reducible refine Kept.setCell ?_ (by simp only [World.size_alloc, World.size_setCell, World.size_drew]; omega) _)) hb
  clear hk hb
  clear N1
  have N1 := N1'
  clear N1'
  have hk := hk'
  clear hk'
  have hz_w3 := hk.size
  go_wp2
  go_ret
  exact ⟨_, rfl, (by rw [HJ.out]; exact IsN.kept N1 (by repeat (first | with_reducible exact Kept.refl _ | with_reducible refine Kept.alloc ?_ _ | with_reducible refine Kept.drew ?_ | with_reducible refine Kept.setCell ?_ (by simp only [World.size_alloc, World.size_setCell, World.size_drew]; omega) _))), (by refine Kept.below ?_; repeat (first | with_reducible exact hk | with_reducible exact Kept.refl _ | with_reducible refine Kept.alloc ?_ _ | with_reducible refine Kept.drew ?_ | with_reducible refine Kept.setCell ?_ (by simp only [World.size_alloc, World.size_setCell, World.size_drew]; omega) _))⟩

set_option maxRecDepth 100000 in
set_option maxHeartbeats 8000000 in
theorem refJam3_no {v : Value} {A k : Nat} {n : Int} (hK : nearI n = (k : Int)) (hk3 : k ≤ 300) {w : World} (nA : IsN w v A) (hl : lenN A ≤ 64) (hb : lostB A (k : Int) = false) (hj : jamN A (k : Int) = A / 2 ^ k) :
    Calls Try.prog 48 #[v, .int .i64 n] w fun e w' => ∃ u, e = .returned u ∧ IsN w' u (jamN A (k : Int)) ∧ Below w.heap.size w w' := by
  have hk := Kept.refl w
  have HK := Lib.hid hK
  have HL := Lib.hid hb
  have HJ := Lib.hid hj
  have lf0 := lenN_div (A := A) (n := k)
  clear hK hb hj
  go_enter Try.func48, Try.ntmps48
  go_wp2_with fail
  (with_reducible refine (refRight3 HK.out hk3 (IsN.kept nA (by repeat (first | with_reducible exact Kept.refl _ | with_reducible refine Kept.alloc ?_ _ | with_reducible refine Kept.drew ?_ | with_reducible refine Kept.setCell ?_ (by simp only [World.size_alloc, World.size_setCell, World.size_drew]; omega) _))) (by omega)).mono ?_)
  rintro e w1 ⟨vN1, rfl, N1_, hb⟩
  have nA' : IsN w1 v (A) := (IsN.kept nA (by repeat (first | with_reducible exact Kept.refl _ | with_reducible refine Kept.alloc ?_ _ | with_reducible refine Kept.drew ?_ | with_reducible refine Kept.setCell ?_ (by simp only [World.size_alloc, World.size_setCell, World.size_drew]; omega) _))).call hb
  have hk' : Kept w.heap.size w w1 := Kept.step (by repeat (first | with_reducible exact hk | with_reducible exact Kept.refl _ | with_reducible refine Kept.alloc ?_ _ | with_reducible refine Kept.drew ?_ | with_reducible refine Kept.setCell ?_ (by simp only [World.size_alloc, World.size_setCell, World.size_drew]; omega) _)) hb
  clear hk hb
  clear nA
  have nA := nA'
  clear nA'
  have hk := hk'
  clear hk'
  have hz_w1 := hk.size
  have N1 : IsN w1 vN1 (A / 2 ^ k) := N1_
  clear N1_
  go_wp2_with fail
  (with_reducible refine (calls_to (V := .bool false) (refLost3 HK.out hk3 (IsN.kept nA (by repeat (first | with_reducible exact Kept.refl _ | with_reducible refine Kept.alloc ?_ _ | with_reducible refine Kept.drew ?_ | with_reducible refine Kept.setCell ?_ (by simp only [World.size_alloc, World.size_setCell, World.size_drew]; omega) _))) (by omega)) (by rw [HL.out])).mono ?_)
  rintro e w2 ⟨rfl, hb⟩
  have nA' : IsN w2 v (A) := (IsN.kept nA (by repeat (first | with_reducible exact Kept.refl _ | with_reducible refine Kept.alloc ?_ _ | with_reducible refine Kept.drew ?_ | with_reducible refine Kept.setCell ?_ (by simp only [World.size_alloc, World.size_setCell, World.size_drew]; omega) _))).call hb
  have N1' : IsN w2 vN1 (A / 2 ^ k) := (IsN.kept N1 (by repeat (first | with_reducible exact Kept.refl _ | with_reducible refine Kept.alloc ?_ _ | with_reducible refine Kept.drew ?_ | with_reducible refine Kept.setCell ?_ (by simp only [World.size_alloc, World.size_setCell, World.size_drew]; omega) _))).call hb
  have hk' : Kept w.heap.size w w2 := Kept.step (by repeat (first | with_reducible exact hk | with_reducible exact Kept.refl _ | with_reducible refine Kept.alloc ?_ _ | with_reducible refine Kept.drew ?_ | with_reducible refine Kept.setCell ?_ (by simp only [World.size_alloc, World.size_setCell, World.size_drew]; omega) _)) hb
  clear hk hb
  clear nA
  have nA := nA'
  clear nA'
  clear N1
  have N1 := N1'
  clear N1'
  have hk := hk'
  clear hk'
  have hz_w2 := hk.size
  go_wp2
  go_ret
  exact ⟨_, rfl, (by rw [HJ.out]; exact IsN.kept N1 (by repeat (first | with_reducible exact Kept.refl _ | with_reducible refine Kept.alloc ?_ _ | with_reducible refine Kept.drew ?_ | with_reducible refine Kept.setCell ?_ (by simp only [World.size_alloc, World.size_setCell, World.size_drew]; omega) _))), (by refine Kept.below ?_; repeat (first | with_reducible exact hk | with_reducible exact Kept.refl _ | with_reducible refine Kept.alloc ?_ _ | with_reducible refine Kept.drew ?_ | with_reducible refine Kept.setCell ?_ (by simp only [World.size_alloc, World.size_setCell, World.size_drew]; omega) _))⟩

theorem refJam3 {v : Value} {A k : Nat} {n : Int} (hK : nearI n = (k : Int)) (hk3 : k ≤ 300) {w : World} (nA : IsN w v A) (hl : lenN A ≤ 64) :
    Calls Try.prog 48 #[v, .int .i64 n] w fun e w' => ∃ u, e = .returned u ∧ IsN w' u (jamN A (k : Int)) ∧ Below w.heap.size w w' := by
  have hr : rightN A (k : Int) = A / 2 ^ k := by unfold rightN; rw [Int.toNat_natCast]
  cases hb : lostB A (k : Int) with
  | false => exact refJam3_no hK hk3 nA hl hb (by rw [jam_no hb, hr])
  | true =>
    have hj : jamN A (k : Int) = oddN (A / 2 ^ k) := by unfold jamN; rw [if_pos hb, hr]
    cases ho : bitZ (A / 2 ^ k) 0 with
    | true =>
      refine refJam3_odd hK hk3 nA hl hb ho ?_
      rw [hj]
      have : A / 2 ^ k % 2 = 1 := by unfold bitZ at ho; simpa [Nat.testBit_zero] using ho
      unfold oddN; omega
    | false =>
      refine refJam3_add hK hk3 nA hl hb ho ?_
      rw [hj]
      have : A / 2 ^ k % 2 = 0 := by unfold bitZ at ho; simpa [Nat.testBit_zero] using ho
      unfold oddN; omega
end Go.Proofs.Ythpmbfdbknikcaa
