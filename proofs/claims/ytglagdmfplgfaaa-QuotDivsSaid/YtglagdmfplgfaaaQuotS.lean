/- package quot: the contract of Step, at what the laws' examples ask. -/
import Derived.Test.YtglagdmfplgfaaaQuotN
set_option linter.unusedVariables false
set_option linter.unusedSimpArgs false
namespace Go.Proofs.Ytglagdmfplgfaaa
open Go.RowKit

set_option maxRecDepth 100000 in
set_option maxHeartbeats 8000000 in
theorem len64_2 (w : World) :
    Calls Try.prog 103 #[.int .u64 2] w fun e w' => e = .returned (.int .i64 2) ∧ w = w' := by
  go_enter Try.func103, Try.ntmps103
  go_wp2
  go_ret
  exact ⟨by kernel_rfl, rfl⟩

set_option maxRecDepth 100000 in
set_option maxHeartbeats 8000000 in
theorem lz64_2 (w : World) :
    Calls Try.prog 93 #[.int .u64 2] w fun e w' => e = .returned (.int .i64 62) ∧ w = w' := by
  go_enter Try.func93, Try.ntmps93
  go_wp2_with (go_at_call 103; refine (len64_2 _).mono ?_; rintro e w' ⟨rfl, rfl⟩)
  go_ret
  exact ⟨rfl, rfl⟩

set_option maxRecDepth 100000 in
set_option maxHeartbeats 8000000 in
theorem div64_102 (w : World) :
    Calls Try.prog 76 #[.int .u64 1, .int .u64 0, .int .u64 2] w fun e w' => e = .returned (.tuple #[.int .u64 9223372036854775808, .int .u64 0]) ∧ w = w' := by
  have b1 : bits .and .u64 9223372036854775808 4294967295 = 0 := by decide +kernel
  have b2 : bits .or .u64 4611686018427387904 0 = 4611686018427387904 := by decide +kernel
  have b3 : bits .and .u64 0 4294967295 = 0 := by decide +kernel
  go_enter Try.func76, Try.ntmps76
  go_wp2_with (go_at_call 93; refine (lz64_2 _).mono ?_; rintro e w' ⟨rfl, rfl⟩)
  refine wp_loop_rounds 1 ?_
  rw [rounds_succ]
  go_wp2
  refine wp_loop_rounds 1 ?_
  rw [rounds_succ]
  go_wp2
  go_ret2
  exact ⟨by kernel_rfl, rfl⟩

set_option maxRecDepth 100000 in
set_option maxHeartbeats 8000000 in
theorem Step_102 (w : World) :
    Calls Try.prog 36 #[.int .u64 1, .int .u64 0, .int .u64 2] w fun e w' => e = .returned (.tuple #[.int .u64 9223372036854775808, .int .u64 0, .bool true]) ∧ w = w' := by
  go_enter Try.func36, Try.ntmps36
  go_wp2_with (go_at_call 76; refine (div64_102 _).mono ?_; rintro e w' ⟨rfl, rfl⟩)
  refine bodyPost_ret (v := .tuple #[.int .u64 9223372036854775808, .int .u64 0, .bool true]) (by kernel_rfl) rfl ⟨rfl, rfl⟩

set_option maxRecDepth 100000 in
set_option maxHeartbeats 8000000 in
theorem Step_no (h l d : Int) (hh : d ≤ h) (w : World) :
    Calls Try.prog 36 #[.int .u64 h, .int .u64 l, .int .u64 d] w fun e w' => e = .returned (.tuple #[.int .u64 0, .int .u64 0, .bool false]) ∧ Below w.heap.size w w' := by
  go_enter Try.func36, Try.ntmps36
  go_wp2
  refine bodyPost_ret (v := .tuple #[.int .u64 0, .int .u64 0, .bool false]) (by kernel_rfl) rfl ⟨rfl, Below.refl _ _⟩
set_option maxRecDepth 100000 in
set_option maxHeartbeats 8000000 in
theorem div64_053 (w : World) :
    Calls Try.prog 76 #[.int .u64 0, .int .u64 5, .int .u64 3] w fun e w' => e = .returned (.tuple #[.int .u64 1, .int .u64 2]) ∧ Below w.heap.size w w' := by
  go_enter Try.func76, Try.ntmps76
  go_wp2
  go_region
  all_goals go_wp2
  all_goals
    go_ret2
    exact ⟨by kernel_rfl, (Below.refl _ _).drew⟩

set_option maxRecDepth 100000 in
set_option maxHeartbeats 8000000 in
theorem Step_053_b (w : World) :
    Calls Try.prog 36 #[.int .u64 0, .int .u64 5, .int .u64 3] w fun e w' => e = .returned (.tuple #[.int .u64 1, .int .u64 2, .bool true]) ∧ Below w.heap.size w w' := by
  go_enter Try.func36, Try.ntmps36
  go_wp2_with fail
  refine (div64_053 _).mono ?_
  rintro e w' ⟨rfl, hb⟩
  go_wp2
  refine bodyPost_ret (v := .tuple #[.int .u64 1, .int .u64 2, .bool true]) (by kernel_rfl) rfl ⟨rfl, hb⟩

end Go.Proofs.Ytglagdmfplgfaaa
