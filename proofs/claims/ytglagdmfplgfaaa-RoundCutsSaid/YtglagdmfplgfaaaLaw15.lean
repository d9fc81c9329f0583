/- The examples of layer 15, and package round at given numbers. -/
import Derived.Test.YtglagdmfplgfaaaCut
import Derived.Test.YtglagdmfplgfaaaWideLit
set_option linter.unusedVariables false
set_option linter.unusedSimpArgs false
namespace Go.Proofs.Ytglagdmfplgfaaa
open Go.RowKit

@[go_sem] theorem eqW_self (a b c d : Int) : eqW a b c d a b c d = true := eqW_true.2 ⟨rfl, rfl, rfl, rfl⟩
theorem full_any (w : World) :
    Calls Try.prog 62 #[] w fun e w' => e = .returned (.agg #[.int .u64 18446744073709551615, .int .u64 18446744073709551615, .int .u64 18446744073709551615, .int .u64 18446744073709551615]) ∧ Below w.heap.size w w' := by
  have hk := Kept.refl w
  go_enter Try.func62, Try.ntmps62
  go_wp2
  refine bodyPost_ret (v := .agg #[.int .u64 18446744073709551615, .int .u64 18446744073709551615, .int .u64 18446744073709551615, .int .u64 18446744073709551615]) (by simp [results, Try.results62, go_sem]) rfl ⟨rfl, ?_⟩
  refine Kept.below ?_; repeat (first | with_reducible exact hk | with_reducible exact Kept.refl _ | with_reducible refine Kept.alloc ?_ _ | with_reducible refine Kept.drew ?_ | with_reducible refine Kept.setCell ?_ (by simp only [World.size_alloc, World.size_setCell, World.size_drew]; omega) _)
def cutLit (W : Nat) (k m : Int) (neg : Bool) (r1 r0 : Int) (c : Bool) : Bool := decide (0 ≤ k) && decide (k ≤ 127) && decide (0 ≤ m) && decide (m ≤ 4) && litBits (cutN W k m neg) r1 r0 && (moreB W k == c)
theorem Cut_lit (a0 a1 a2 a3 k m : Int) (neg : Bool) (r1 r0 : Int) (c : Bool) (h : (isWide4 a0 a1 a2 a3 && cutLit (val4 a0 a1 a2 a3) k m neg r1 r0 c) = true) (w : World) :
    Calls Try.prog 27 #[.agg #[.int .u64 a0, .int .u64 a1, .int .u64 a2, .int .u64 a3], .int .i64 k, .int .u8 m, .bool neg] w fun e w' => e = .returned (.tuple #[.agg #[.int .u64 r1, .int .u64 r0], .bool c]) ∧ Below w.heap.size w w' := by
  unfold cutLit at h
  simp only [Bool.and_eq_true, beq_iff_eq, decide_eq_true_eq] at h
  obtain ⟨h0, ⟨⟨⟨⟨⟨h1, h2⟩, h3⟩, h4⟩, h5⟩, h6⟩⟩ := h
  have hW := isWide4_mk h0
  have := (Cut_in hW.w h1 h2 h3 h4 neg w).mono (R' := fun e w' => e = .returned (.tuple #[.agg #[.int .u64 r1, .int .u64 r0], .bool c]) ∧ Below w.heap.size w w') fun e w' ⟨he, hk⟩ => ⟨by rw [he, litBits_mk h5, h6], hk⟩
  rw [wideV, ← hW.e0, ← hW.e1, ← hW.e2, ← hW.e3] at this
  exact this
theorem Rest_lit (a0 a1 a2 a3 k r : Int) (h : (isWide4 a0 a1 a2 a3 && decide (0 ≤ k) && decide (k ≤ 127) && decide (restI (val4 a0 a1 a2 a3) k = r)) = true) (w : World) :
    Calls Try.prog 28 #[.agg #[.int .u64 a0, .int .u64 a1, .int .u64 a2, .int .u64 a3], .int .i64 k] w fun e w' => e = .returned (.int .u8 r) ∧ Below w.heap.size w w' := by
  simp only [Bool.and_eq_true, decide_eq_true_eq] at h
  obtain ⟨⟨⟨h0, h1⟩, h2⟩, h3⟩ := h
  have hW := isWide4_mk h0
  have := Rest_in hW.w h1 h2 w
  rw [wideV, ← hW.e0, ← hW.e1, ← hW.e2, ← hW.e3, h3] at this
  exact this

set_option maxRecDepth 100000 in
set_option maxHeartbeats 4000000 in
theorem goes15_any (w : World) :
    Calls Try.prog 29 #[] w fun e w' => e = .returned (.bool true) ∧ Below w.heap.size w w' := by
  have hk := Kept.refl w
  have hE := Known.nil w
  go_enter Try.func29, Try.ntmps29
  go_wp2_with (first
    | (go_at_call 62; refine (full_any _).mono ?_; rintro e w' ⟨rfl, hb⟩; replace hE : Known _ w' := Known.step hE (by refine Kept.below ?_; repeat (first | with_reducible exact Kept.refl _ | with_reducible refine Kept.alloc ?_ _ | with_reducible refine Kept.drew ?_ | with_reducible refine Kept.setCell ?_ (by simp) _)) hb; have hR := hE; (simp only [Known, and_true] at hR); replace hk : Kept w.heap.size w w' := Kept.step (by repeat (first | with_reducible exact hk | with_reducible refine Kept.alloc ?_ _ | with_reducible refine Kept.drew ?_ | with_reducible refine Kept.setCell ?_ (by simp; omega) _)) hb; have hz := hb.size; (try simp only [World.size_alloc, World.size_setCell] at hz); clear hb)
    | (go_at_call 27; refine (Cut_lit _ _ _ _ _ _ _ 0 255 true (by decide +kernel) _).mono ?_; rintro e w' ⟨rfl, hb⟩; replace hE : Known _ w' := Known.step hE (by refine Kept.below ?_; repeat (first | with_reducible exact Kept.refl _ | with_reducible refine Kept.alloc ?_ _ | with_reducible refine Kept.drew ?_ | with_reducible refine Kept.setCell ?_ (by simp) _)) hb; have hR := hE; (simp only [Known, and_true] at hR); replace hk : Kept w.heap.size w w' := Kept.step (by repeat (first | with_reducible exact hk | with_reducible refine Kept.alloc ?_ _ | with_reducible refine Kept.drew ?_ | with_reducible refine Kept.setCell ?_ (by simp; omega) _)) hb; have hz := hb.size; (try simp only [World.size_alloc, World.size_setCell] at hz); clear hb)
    | (go_at_call 27; refine (Cut_lit _ _ _ _ _ _ _ 0 256 true (by decide +kernel) _).mono ?_; rintro e w' ⟨rfl, hb⟩; replace hE : Known _ w' := Known.step hE (by refine Kept.below ?_; repeat (first | with_reducible exact Kept.refl _ | with_reducible refine Kept.alloc ?_ _ | with_reducible refine Kept.drew ?_ | with_reducible refine Kept.setCell ?_ (by simp) _)) hb; have hR := hE; (simp only [Known, and_true] at hR); replace hk : Kept w.heap.size w w' := Kept.step (by repeat (first | with_reducible exact hk | with_reducible refine Kept.alloc ?_ _ | with_reducible refine Kept.drew ?_ | with_reducible refine Kept.setCell ?_ (by simp; omega) _)) hb; have hz := hb.size; (try simp only [World.size_alloc, World.size_setCell] at hz); clear hb)
    | (go_at_call 27; refine (Cut_lit _ _ _ _ _ _ _ 0 1 false (by decide +kernel) _).mono ?_; rintro e w' ⟨rfl, hb⟩; replace hE : Known _ w' := Known.step hE (by refine Kept.below ?_; repeat (first | with_reducible exact Kept.refl _ | with_reducible refine Kept.alloc ?_ _ | with_reducible refine Kept.drew ?_ | with_reducible refine Kept.setCell ?_ (by simp) _)) hb; have hR := hE; (simp only [Known, and_true] at hR); replace hk : Kept w.heap.size w w' := Kept.step (by repeat (first | with_reducible exact hk | with_reducible refine Kept.alloc ?_ _ | with_reducible refine Kept.drew ?_ | with_reducible refine Kept.setCell ?_ (by simp; omega) _)) hb; have hz := hb.size; (try simp only [World.size_alloc, World.size_setCell] at hz); clear hb)
    | (go_at_call 28; refine (Rest_lit _ _ _ _ _ 2 (by decide +kernel) _).mono ?_; rintro e w' ⟨rfl, hb⟩; replace hE : Known _ w' := Known.step hE (by refine Kept.below ?_; repeat (first | with_reducible exact Kept.refl _ | with_reducible refine Kept.alloc ?_ _ | with_reducible refine Kept.drew ?_ | with_reducible refine Kept.setCell ?_ (by simp) _)) hb; have hR := hE; (simp only [Known, and_true] at hR); replace hk : Kept w.heap.size w w' := Kept.step (by repeat (first | with_reducible exact hk | with_reducible refine Kept.alloc ?_ _ | with_reducible refine Kept.drew ?_ | with_reducible refine Kept.setCell ?_ (by simp; omega) _)) hb; have hz := hb.size; (try simp only [World.size_alloc, World.size_setCell] at hz); clear hb))
  all_goals go_ret
  all_goals exact ⟨rfl, (by refine Kept.below ?_; repeat (first | with_reducible exact Kept.refl _ | with_reducible exact hk | with_reducible refine Kept.alloc ?_ _ | with_reducible refine Kept.drew ?_ | with_reducible refine Kept.setCell ?_ (by simp; try omega) _))⟩

end Go.Proofs.Ytglagdmfplgfaaa
