/- The walk of ShiftKnown. -/
import Derived.Test.YtbifpmpnfcfkkaaLaw03
namespace Go.Proofs.Ytbifpmpnfcfkkaa
open Go.RowKit
set_option linter.unusedVariables false
set_option linter.unusedSimpArgs false

set_option maxRecDepth 100000 in
set_option maxHeartbeats 16000000 in
theorem ShiftKnown_walk (w : World) :
    Calls Try.prog 11 #[] w fun e w' => e = .returned (.bool true) ∧ Below w.heap.size w w' := by
  have hs : ∀ W W' : World, Below W.heap.size W W' → (Kept w.heap.size w W ∧ w.heap.size < W.heap.size ∧ w.heap.size + 1 < W.heap.size ∧ W.cell? ⟨w.heap.size, 0, none⟩ = some (.int .u64 0) ∧ W.cell? ⟨w.heap.size, 1, none⟩ = some (.int .u64 1) ∧ W.cell? ⟨w.heap.size + 1, 0, none⟩ = some (.int .u64 18446744073709551615) ∧ W.cell? ⟨w.heap.size + 1, 1, none⟩ = some (.int .u64 18446744073709551615)) → (Kept w.heap.size w W' ∧ w.heap.size < W'.heap.size ∧ w.heap.size + 1 < W'.heap.size ∧ W'.cell? ⟨w.heap.size, 0, none⟩ = some (.int .u64 0) ∧ W'.cell? ⟨w.heap.size, 1, none⟩ = some (.int .u64 1) ∧ W'.cell? ⟨w.heap.size + 1, 0, none⟩ = some (.int .u64 18446744073709551615) ∧ W'.cell? ⟨w.heap.size + 1, 1, none⟩ = some (.int .u64 18446744073709551615)) := fun W W' hb h => ⟨h.1.step hb, Nat.lt_of_lt_of_le (h.2.1) hb.size, Nat.lt_of_lt_of_le (h.2.2.1) hb.size, (hb.cell (h.2.1)).trans (h.2.2.2.1), (hb.cell (h.2.1)).trans (h.2.2.2.2.1), (hb.cell (h.2.2.1)).trans (h.2.2.2.2.2.1), (hb.cell (h.2.2.1)).trans (h.2.2.2.2.2.2)⟩
  have HS := Lib.hid hs; clear hs
  go_enter Try.func11, Try.ntmps11
  go_wp2
  simp only [List.append_eq, List.cons_append, List.nil_append]
  go_region_held3 (fun W' => Kept w.heap.size w W' ∧ w.heap.size < W'.heap.size ∧ w.heap.size + 1 < W'.heap.size ∧ W'.cell? ⟨w.heap.size, 0, none⟩ = some (.int .u64 0) ∧ W'.cell? ⟨w.heap.size, 1, none⟩ = some (.int .u64 1) ∧ W'.cell? ⟨w.heap.size + 1, 0, none⟩ = some (.int .u64 18446744073709551615) ∧ W'.cell? ⟨w.heap.size + 1, 1, none⟩ = some (.int .u64 18446744073709551615))
    ((first | (with_reducible exact HS.out _ _ (by assumption) (by assumption)) | assumption | (with_reducible exact HS.out _ _ ((Below.refl _ _).drew) (by assumption)) | exact ⟨by repeat (first | with_reducible assumption | with_reducible exact Kept.refl _ | with_reducible refine Kept.alloc ?_ _ | with_reducible refine Kept.drew ?_ | with_reducible refine Kept.setCell ?_ (by simp; try omega) _), by go_simp, by go_simp, by go_simp, by go_simp, by go_simp, by go_simp⟩))
    (first
      | (go_at_call 24; refine (Left_lit _ _ _ 0 0 (by decide +kernel) _).mono ?_; rintro e w' ⟨rfl, hb⟩)
      | (go_at_call 24; refine (Left_lit _ _ _ 1 0 (by decide +kernel) _).mono ?_; rintro e w' ⟨rfl, hb⟩)
      | (go_at_call 24; refine (Left_lit _ _ _ 18446744073709551615 18446744073709551615 (by decide +kernel) _).mono ?_; rintro e w' ⟨rfl, hb⟩)
      | (go_at_call 27; refine (Right_lit _ _ _ 18446744073709551615 18446744073709551615 (by decide +kernel) _).mono ?_; rintro e w' ⟨rfl, hb⟩)
      | (go_at_call 29; refine (Jam_lit _ _ _ 18446744073709551615 18446744073709551615 (by decide +kernel) _).mono ?_; rintro e w' ⟨rfl, hb⟩)
      | (go_at_call 27; refine (Right_lit _ _ _ 0 1 (by decide +kernel) _).mono ?_; rintro e w' ⟨rfl, hb⟩)
      | (go_at_call 27; refine (Right_lit _ _ _ 0 0 (by decide +kernel) _).mono ?_; rintro e w' ⟨rfl, hb⟩)
      | (go_at_call 29; refine (Jam_lit _ _ _ 0 2 (by decide +kernel) _).mono ?_; rintro e w' ⟨rfl, hb⟩)
      | (go_at_call 29; refine (Jam_lit _ _ _ 0 0 (by decide +kernel) _).mono ?_; rintro e w' ⟨rfl, hb⟩)
      | (go_at_call 35; refine (WideLeft_lit _ _ _ _ _ 0 0 0 9223372036854775808 (by decide +kernel) _).mono ?_; rintro e w' ⟨rfl, hb⟩)
      | (go_at_call 35; refine (WideLeft_lit _ _ _ _ _ 0 0 0 0 (by decide +kernel) _).mono ?_; rintro e w' ⟨rfl, hb⟩)
      | (go_at_call 38; refine (WideJam_lit _ _ _ _ _ 1 0 0 0 (by decide +kernel) _).mono ?_; rintro e w' ⟨rfl, hb⟩)
      | (go_at_call 39; refine (Lost_lit _ _ _ _ _ false (by decide +kernel) _).mono ?_; rintro e w' ⟨rfl, hb⟩)
      | (go_at_call 39; refine (Lost_lit _ _ _ _ _ true (by decide +kernel) _).mono ?_; rintro e w' ⟨rfl, hb⟩)
      | (go_at_call 31; refine (goes03_any _).mono ?_; rintro e w' ⟨rfl, hb⟩))
  all_goals go_wp2
  all_goals go_ret
  all_goals (refine ⟨rfl, ?_⟩; apply kept_of; assumption)

end Go.Proofs.Ytbifpmpnfcfkkaa
