/- The walks of the statements of layer 13: each answers true for every input, and old memory is as it was. -/
import Derived.Test.YtglagdmfplgfaaaMode
set_option linter.unusedVariables false
set_option linter.unusedSimpArgs false
namespace Go.Proofs.Ytglagdmfplgfaaa
open Go.RowKit Go.Maps

set_option maxHeartbeats 400000 in
theorem refNext_any (m : Int) (neg odd : Bool) (r : Int) (w : World) :
    Calls Try.prog 65 #[.int .u8 m, .bool neg, .bool odd, .int .i64 r] w fun e w' => e = .returned (.bool (nextB m neg odd r)) ∧ w = w' := by
  go_enter Try.func65, Try.ntmps65
  go_wp2
  all_goals go_ret
  all_goals refine ⟨ret_bool ?_, rfl⟩
  all_goals (try simp only [beq_iff_eq, beq_eq_false_iff_ne, ne_eq] at *)
  all_goals (cases neg <;> cases odd <;> rw [Bool.eq_iff_iff] <;> simp [nextB] <;> omega)

theorem mirror_nonneg {m : Int} (h : 0 ≤ m) : 0 ≤ mirrorI m := by unfold mirrorI; split <;> (try split) <;> omega
theorem mirror_mirror (m : Int) : mirrorI (mirrorI m) = m := by unfold mirrorI; split <;> (try split) <;> (try split) <;> (try split) <;> omega
theorem mirror_known (m : Int) : decide (mirrorI m ≤ 4) = decide (m ≤ 4) := by unfold mirrorI; split <;> (try split) <;> simp <;> omega
theorem next_mirror (m : Int) (odd : Bool) (r : Int) : nextB (mirrorI m) false odd r = nextB m true odd r := by
  unfold nextB mirrorI
  split
  · subst m; simp
  · split
    · subst m; simp
    · rename_i a b; simp [decide_eq_false a, decide_eq_false b]

end Go.Proofs.Ytglagdmfplgfaaa
