/- The references' numbers into 256 bits: contract. -/
import Derived.Test.YthpmbfdbknikcaaRefAdd
import Derived.LoopN
set_option linter.unusedVariables false
set_option linter.unusedSimpArgs false
namespace Go.Proofs.Ythpmbfdbknikcaa
open Go.RowKit

set_option maxRecDepth 100000 in
set_option maxHeartbeats 8000000 in
theorem refLow_any {v : Value} {A : Nat} (w : World) (h : IsN w v A) (hl : lenN A ≤ 65536) :
    Calls Try.prog 20 #[v] w fun e w' => e = .returned (wideV A) ∧ Below w.heap.size w w' := by
  have d0 := dig_lt 0 A
  have d1 := dig_lt 1 A
  have d2 := dig_lt 2 A
  have d3 := dig_lt 3 A
  have d4 := dig_lt 4 A
  have d5 := dig_lt 5 A
  have d6 := dig_lt 6 A
  have d7 := dig_lt 7 A
  have HP0 := Lib.hid (show ((dig 0 A : Nat) : Int) + ((dig 1 A : Nat) : Int) * 4294967296 = limb 0 A from dig_pair 0 A)
  have HP1 := Lib.hid (show ((dig 2 A : Nat) : Int) + ((dig 3 A : Nat) : Int) * 4294967296 = limb 1 A from dig_pair 1 A)
  have HP2 := Lib.hid (show ((dig 4 A : Nat) : Int) + ((dig 5 A : Nat) : Int) * 4294967296 = limb 2 A from dig_pair 2 A)
  have HP3 := Lib.hid (show ((dig 6 A : Nat) : Int) + ((dig 7 A : Nat) : Int) * 4294967296 = limb 3 A from dig_pair 3 A)
  have HK : ∀ w', Kept w.heap.size w w' → IsN w' v A := fun w' hk => h.kept hk
  have HKH := Lib.hid HK
  clear HK
  go_enter Try.func20, Try.ntmps20
  go_wp2
  refine wp_loop_rounds 5 ?_
  rw [rounds_succ]
  go_wp2_with fail
  refine (digit_any 0 _ (HKH.out _ (by repeat (first | with_reducible exact Kept.refl _ | with_reducible refine Kept.alloc ?_ _ | with_reducible refine Kept.drew ?_ | with_reducible refine Kept.setCell ?_ (by simp only [World.size_alloc, World.size_setCell, World.size_drew]; omega) _))) hl (by omega)).mono ?_
  rintro e w' ⟨rfl, rfl⟩
  go_wp2_with fail
  refine (digit_any 1 _ (HKH.out _ (by repeat (first | with_reducible exact Kept.refl _ | with_reducible refine Kept.alloc ?_ _ | with_reducible refine Kept.drew ?_ | with_reducible refine Kept.setCell ?_ (by simp only [World.size_alloc, World.size_setCell, World.size_drew]; omega) _))) hl (by omega)).mono ?_
  rintro e w' ⟨rfl, rfl⟩
  go_wp2_with fail
  rw [rounds_succ]
  go_wp2_with fail
  refine (digit_any 2 _ (HKH.out _ (by repeat (first | with_reducible exact Kept.refl _ | with_reducible refine Kept.alloc ?_ _ | with_reducible refine Kept.drew ?_ | with_reducible refine Kept.setCell ?_ (by simp only [World.size_alloc, World.size_setCell, World.size_drew]; omega) _))) hl (by omega)).mono ?_
  rintro e w' ⟨rfl, rfl⟩
  go_wp2_with fail
  refine (digit_any 3 _ (HKH.out _ (by repeat (first | with_reducible exact Kept.refl _ | with_reducible refine Kept.alloc ?_ _ | with_reducible refine Kept.drew ?_ | with_reducible refine Kept.setCell ?_ (by simp only [World.size_alloc, World.size_setCell, World.size_drew]; omega) _))) hl (by omega)).mono ?_
  rintro e w' ⟨rfl, rfl⟩
  go_wp2_with fail
  rw [rounds_succ]
  go_wp2_with fail
  refine (digit_any 4 _ (HKH.out _ (by repeat (first | with_reducible exact Kept.refl _ | with_reducible refine Kept.alloc ?_ _ | with_reducible refine Kept.drew ?_ | with_reducible refine Kept.setCell ?_ (by simp only [World.size_alloc, World.size_setCell, World.size_drew]; omega) _))) hl (by omega)).mono ?_
  rintro e w' ⟨rfl, rfl⟩
  go_wp2_with fail
  refine (digit_any 5 _ (HKH.out _ (by repeat (first | with_reducible exact Kept.refl _ | with_reducible refine Kept.alloc ?_ _ | with_reducible refine Kept.drew ?_ | with_reducible refine Kept.setCell ?_ (by simp only [World.size_alloc, World.size_setCell, World.size_drew]; omega) _))) hl (by omega)).mono ?_
  rintro e w' ⟨rfl, rfl⟩
  go_wp2_with fail
  rw [rounds_succ]
  go_wp2_with fail
  refine (digit_any 6 _ (HKH.out _ (by repeat (first | with_reducible exact Kept.refl _ | with_reducible refine Kept.alloc ?_ _ | with_reducible refine Kept.drew ?_ | with_reducible refine Kept.setCell ?_ (by simp only [World.size_alloc, World.size_setCell, World.size_drew]; omega) _))) hl (by omega)).mono ?_
  rintro e w' ⟨rfl, rfl⟩
  go_wp2_with fail
  refine (digit_any 7 _ (HKH.out _ (by repeat (first | with_reducible exact Kept.refl _ | with_reducible refine Kept.alloc ?_ _ | with_reducible refine Kept.drew ?_ | with_reducible refine Kept.setCell ?_ (by simp only [World.size_alloc, World.size_setCell, World.size_drew]; omega) _))) hl (by omega)).mono ?_
  rintro e w' ⟨rfl, rfl⟩
  go_wp2_with fail
  rw [rounds_succ]
  go_wp2
  refine bodyPost_ret (v := .agg #[.int .u64 (((dig 0 A : Nat) : Int) + ((dig 1 A : Nat) : Int) * 4294967296), .int .u64 (((dig 2 A : Nat) : Int) + ((dig 3 A : Nat) : Int) * 4294967296), .int .u64 (((dig 4 A : Nat) : Int) + ((dig 5 A : Nat) : Int) * 4294967296), .int .u64 (((dig 6 A : Nat) : Int) + ((dig 7 A : Nat) : Int) * 4294967296)]) (by simp [results, Try.results20, go_sem]) rfl ⟨?_, ?_⟩
  · rw [wideV, ← HP0.out, ← HP1.out, ← HP2.out, ← HP3.out]
  · refine Kept.below ?_; repeat (first | with_reducible exact Kept.refl _ | with_reducible refine Kept.alloc ?_ _ | with_reducible refine Kept.drew ?_ | with_reducible refine Kept.setCell ?_ (by simp only [World.size_alloc, World.size_setCell, World.size_drew]; omega) _)
end Go.Proofs.Ythpmbfdbknikcaa
