/- The walks of the statements of layer 13: each answers true for every input, and old memory is as it was. -/
import Derived.Test.YtbifpmpnfcfkkaaMode
namespace Go.Proofs.Ytbifpmpnfcfkkaa
open Go.RowKit Go.Maps

set_option maxHeartbeats 400000 in
theorem refNext_any (m : Int) (neg odd : Bool) (r : Int) (w : World) :
    Calls Try.prog 19 #[.int .u8 m, .bool neg, .bool odd, .int .i64 r] w fun e w' => e = .returned (.bool (nextB m neg odd r)) ∧ w = w' := by
  go_enter Try.func19, Try.ntmps19
  go_wp2
  all_goals go_ret
  all_goals refine ⟨ret_bool ?_, rfl⟩
  all_goals (try simp only [beq_iff_eq, beq_eq_false_iff_ne, ne_eq] at *)
  all_goals (cases neg <;> cases odd <;> rw [Bool.eq_iff_iff] <;> simp [nextB] <;> omega)

theorem refInfinite_any (m : Int) (neg : Bool) (w : World) :
    Calls Try.prog 22 #[.int .u8 m, .bool neg] w fun e w' => e = .returned (.bool (nextB m neg true 3)) ∧ w = w' := by
  go_enter Try.func22, Try.ntmps22
  go_wp2
  all_goals go_ret
  all_goals refine ⟨ret_bool ?_, rfl⟩
  all_goals (try simp only [beq_iff_eq, beq_eq_false_iff_ne, ne_eq] at *)
  all_goals (cases neg <;> rw [Bool.eq_iff_iff] <;> simp [nextB] <;> first | omega | simp_all)

set_option maxHeartbeats 400000 in
theorem goes13_any (w : World) :
    Calls Try.prog 17 #[] w fun e w' => e = .returned (.bool true) ∧ Below w.heap.size w w' := by
  have hk := Kept.refl w
  go_enter Try.func17, Try.ntmps17
  go_wp2_with (first
    | (go_at_call 18; refine (Calls.known true (by decide) (Next_any _ _ _ _ (by omega) (by omega) _)).mono ?_; rintro e w' ⟨rfl, hb⟩; replace hk := hk.step hb)
    | (go_at_call 18; refine (Calls.known false (by decide) (Next_any _ _ _ _ (by omega) (by omega) _)).mono ?_; rintro e w' ⟨rfl, hb⟩; replace hk := hk.step hb)
    | (go_at_call 21; refine (Calls.known false (by decide) (Infinite_any _ _ (by omega) _)).mono ?_; rintro e w' ⟨rfl, hb⟩; replace hk := hk.step hb)
    | (go_at_call 33; refine (Of_any _ _ _).mono ?_; rintro e w' ⟨rfl, rfl⟩))
  go_ret
  exact ⟨rfl, hk.below⟩

theorem mirror_nonneg {m : Int} (h : 0 ≤ m) : 0 ≤ mirrorI m := by unfold mirrorI; split <;> (try split) <;> omega
theorem mirror_mirror (m : Int) : mirrorI (mirrorI m) = m := by unfold mirrorI; split <;> (try split) <;> (try split) <;> (try split) <;> omega
theorem mirror_known (m : Int) : decide (mirrorI m ≤ 4) = decide (m ≤ 4) := by unfold mirrorI; split <;> (try split) <;> simp <;> omega
theorem next_mirror (m : Int) (odd : Bool) (r : Int) : nextB (mirrorI m) false odd r = nextB m true odd r := by
  unfold nextB mirrorI
  split
  · subst m; simp
  · split
    · subst m; simp
    · rename_i a b; simp [decide_eq_false a, decide_eq_false b]

set_option maxHeartbeats 400000 in
theorem ModeNext_walk (m : Int) (neg odd : Bool) (r : Int) (hm : 0 ≤ m) (hr : 0 ≤ r) (hr1 : r ≤ 255) (w : World) :
    Calls Try.prog 5 #[.int .u8 m, .bool neg, .bool odd, .int .u8 r] w fun e w' => e = .returned (.bool true) ∧ Below w.heap.size w w' := by
  have hk := Kept.refl w
  have hlt : decide (m ≤ 4) = decide (m < 5) := by rw [decide_eq_decide]; omega
  have HL := Lib.hid hlt; clear hlt
  go_enter Try.func5, Try.ntmps5
  go_wp2_with (first
    | (go_at_call 18; refine (Next_any _ _ _ _ hm hr _).mono ?_; rintro e w' ⟨rfl, hb⟩; replace hk := hk.step hb)
    | (go_at_call 19; refine (refNext_any _ _ _ _ _).mono ?_; rintro e w' ⟨rfl, rfl⟩)
    | (go_at_call 20; refine (Known_any _ _).mono ?_; rintro e w' ⟨rfl, rfl⟩; rw [HL.out])
    | (go_at_call 21; refine (Infinite_any _ _ hm _).mono ?_; rintro e w' ⟨rfl, hb⟩; replace hk := hk.step hb)
    | (go_at_call 22; refine (refInfinite_any _ _ _).mono ?_; rintro e w' ⟨rfl, rfl⟩)
    | (go_at_call 17; refine (goes13_any _).mono ?_; rintro e w' ⟨rfl, hb⟩; replace hk := hk.step hb))
  go_ret
  exact ⟨rfl, hk.below⟩

set_option maxHeartbeats 400000 in
theorem ModeMirror_walk (m : Int) (odd : Bool) (r : Int) (hm : 0 ≤ m) (hr : 0 ≤ r) (w : World) :
    Calls Try.prog 7 #[.int .u8 m, .bool odd, .int .u8 r] w fun e w' => e = .returned (.bool true) ∧ Below w.heap.size w w' := by
  have hk := Kept.refl w
  have hmm := mirror_nonneg hm
  have H1 := Lib.hid (next_mirror m)
  have H2 := Lib.hid (mirror_mirror m)
  have H3 := Lib.hid (mirror_known m)
  go_enter Try.func7, Try.ntmps7
  go_wp2_with (first
    | (go_at_call 18; refine (Next_any _ _ _ _ (by assumption) hr _).mono ?_; rintro e w' ⟨rfl, hb⟩; replace hk := hk.step hb; try rw [H1.out])
    | (go_at_call 20; refine (Known_any _ _).mono ?_; rintro e w' ⟨rfl, rfl⟩; try rw [H3.out])
    | (go_at_call 32; refine (Mirror_any _ _).mono ?_; rintro e w' ⟨rfl, rfl⟩; try rw [H2.out])
    | (go_at_call 21; refine (Infinite_any _ _ (by assumption) _).mono ?_; rintro e w' ⟨rfl, hb⟩; replace hk := hk.step hb; try rw [H1.out])
    | (go_at_call 17; refine (goes13_any _).mono ?_; rintro e w' ⟨rfl, hb⟩; replace hk := hk.step hb))
  go_ret
  exact ⟨rfl, hk.below⟩

set_option maxHeartbeats 1000000 in
theorem ModeKnown_walk (w : World) :
    Calls Try.prog 8 #[] w fun e w' => e = .returned (.bool true) ∧ Below w.heap.size w w' := by
  have hk := Kept.refl w
  go_enter Try.func8, Try.ntmps8
  go_wp2_with (first
    | (go_at_call 18; refine (Calls.known true (by decide) (Next_any _ _ _ _ (by omega) (by omega) _)).mono ?_; rintro e w' ⟨rfl, hb⟩; replace hk := hk.step hb)
    | (go_at_call 18; refine (Calls.known false (by decide) (Next_any _ _ _ _ (by omega) (by omega) _)).mono ?_; rintro e w' ⟨rfl, hb⟩; replace hk := hk.step hb)
    | (go_at_call 21; refine (Calls.known true (by decide) (Infinite_any _ _ (by omega) _)).mono ?_; rintro e w' ⟨rfl, hb⟩; replace hk := hk.step hb)
    | (go_at_call 21; refine (Calls.known false (by decide) (Infinite_any _ _ (by omega) _)).mono ?_; rintro e w' ⟨rfl, hb⟩; replace hk := hk.step hb)
    | (go_at_call 33; refine (Of_any _ _ _).mono ?_; rintro e w' ⟨rfl, rfl⟩; simp only [ofI, Bool.and_true, Bool.and_false, Bool.true_and, Bool.false_and, if_true, Bool.false_eq_true, if_false])
    | (go_at_call 20; refine (Calls.known true (by decide) (Known_any _ _)).mono ?_; rintro e w' ⟨rfl, rfl⟩)
    | (go_at_call 20; refine (Calls.known false (by decide) (Known_any _ _)).mono ?_; rintro e w' ⟨rfl, rfl⟩)
    | (go_at_call 32; refine (Mirror_any _ _).mono ?_; rintro e w' ⟨rfl, rfl⟩; simp only [mirrorI, Int.reduceEq, if_false])
    | (go_at_call 17; refine (goes13_any _).mono ?_; rintro e w' ⟨rfl, hb⟩; replace hk := hk.step hb))
  go_ret
  exact ⟨rfl, hk.below⟩
end Go.Proofs.Ytbifpmpnfcfkkaa
