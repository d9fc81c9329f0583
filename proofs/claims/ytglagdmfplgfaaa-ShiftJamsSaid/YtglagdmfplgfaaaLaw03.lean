/- The walks of the statements of layer 3 that do not ask the document's answer. -/
import Derived.Test.YtglagdmfplgfaaaNum3
import Derived.Test.YtglagdmfplgfaaaWordLit
set_option linter.unusedVariables false
set_option linter.unusedSimpArgs false
namespace Go.Proofs.Ytglagdmfplgfaaa
open Go.RowKit

def litWide (R : Nat) (r0 r1 r2 r3 : Int) : Bool := decide (limb 0 R = r0) && decide (limb 1 R = r1) && decide (limb 2 R = r2) && decide (limb 3 R = r3)
theorem litWide_mk {R : Nat} {r0 r1 r2 r3 : Int} (h : litWide R r0 r1 r2 r3 = true) : wideV R = .agg #[.int .u64 r0, .int .u64 r1, .int .u64 r2, .int .u64 r3] := by
  unfold litWide at h; simp only [Bool.and_eq_true, decide_eq_true_eq] at h
  unfold wideV; rw [h.1.1.1, h.1.1.2, h.1.2, h.2]
def isI64 (n : Int) : Bool := decide (-9223372036854775808 ≤ n) && decide (n ≤ 9223372036854775807)
theorem isI64_mk {n : Int} (h : isI64 n = true) : -9223372036854775808 ≤ n ∧ n ≤ 9223372036854775807 := by unfold isI64 at h; simpa using h
theorem Left_lit (a1 a0 n r1 r0 : Int) (h : (isU64 a1 && isU64 a0 && isI64 n && litBits (left128 (val2 a0 a1) n) r1 r0) = true) (w : World) :
    Calls Try.prog 11 #[.agg #[.int .u64 a1, .int .u64 a0], .int .i64 n] w fun e w' => e = .returned (.agg #[.int .u64 r1, .int .u64 r0]) ∧ Below w.heap.size w w' := by
  simp only [Bool.and_eq_true] at h
  obtain ⟨⟨⟨h1, h0⟩, hn⟩, hr⟩ := h
  have hA := IsBits.val (isU64_mk h1) (isU64_mk h0)
  refine (Left_at hA n (isI64_mk hn).1 (isI64_mk hn).2 w).mono fun e w' ⟨he, hk⟩ => ⟨?_, hk⟩
  rw [he,  litBits_mk hr]
theorem Right_lit (a1 a0 n r1 r0 : Int) (h : (isU64 a1 && isU64 a0 && isI64 n && litBits (rightN (val2 a0 a1) (capI n)) r1 r0) = true) (w : World) :
    Calls Try.prog 14 #[.agg #[.int .u64 a1, .int .u64 a0], .int .i64 n] w fun e w' => e = .returned (.agg #[.int .u64 r1, .int .u64 r0]) ∧ Below w.heap.size w w' := by
  simp only [Bool.and_eq_true] at h
  obtain ⟨⟨⟨h1, h0⟩, hn⟩, hr⟩ := h
  have hA := IsBits.val (isU64_mk h1) (isU64_mk h0)
  refine (Right_at hA n (isI64_mk hn).1 (isI64_mk hn).2 w).mono fun e w' ⟨he, hk⟩ => ⟨?_, hk⟩
  rw [he, ← right_cap (w128_256 hA.w),  litBits_mk hr]
theorem Jam_lit (a1 a0 n r1 r0 : Int) (h : (isU64 a1 && isU64 a0 && isI64 n && litBits (jamN (val2 a0 a1) (capI n)) r1 r0) = true) (w : World) :
    Calls Try.prog 16 #[.agg #[.int .u64 a1, .int .u64 a0], .int .i64 n] w fun e w' => e = .returned (.agg #[.int .u64 r1, .int .u64 r0]) ∧ Below w.heap.size w w' := by
  simp only [Bool.and_eq_true] at h
  obtain ⟨⟨⟨h1, h0⟩, hn⟩, hr⟩ := h
  have hA := IsBits.val (isU64_mk h1) (isU64_mk h0)
  refine (Jam_at hA n (isI64_mk hn).1 (isI64_mk hn).2 w).mono fun e w' ⟨he, hk⟩ => ⟨?_, hk⟩
  rw [he, ← jam_cap (w128_256 hA.w),  litBits_mk hr]
theorem WideLeft_lit (a0 a1 a2 a3 n r0 r1 r2 r3 : Int) (h : (isU64 a0 && isU64 a1 && isU64 a2 && isU64 a3 && isI64 n && litWide (left256 (val4 a0 a1 a2 a3) n) r0 r1 r2 r3) = true) (w : World) :
    Calls Try.prog 20 #[.agg #[.int .u64 a0, .int .u64 a1, .int .u64 a2, .int .u64 a3], .int .i64 n] w fun e w' => e = .returned (.agg #[.int .u64 r0, .int .u64 r1, .int .u64 r2, .int .u64 r3]) ∧ Below w.heap.size w w' := by
  simp only [Bool.and_eq_true] at h
  obtain ⟨⟨⟨⟨⟨h0, h1⟩, h2⟩, h3⟩, hn⟩, hr⟩ := h
  have hA := IsWide.val (isU64_mk h0) (isU64_mk h1) (isU64_mk h2) (isU64_mk h3)
  refine (WideLeft_at hA n (isI64_mk hn).1 (isI64_mk hn).2 w).mono fun e w' ⟨he, hk⟩ => ⟨?_, hk⟩
  rw [he,  litWide_mk hr]
theorem WideJam_lit (a0 a1 a2 a3 n r0 r1 r2 r3 : Int) (h : (isU64 a0 && isU64 a1 && isU64 a2 && isU64 a3 && isI64 n && litWide (jamN (val4 a0 a1 a2 a3) (capI n)) r0 r1 r2 r3) = true) (w : World) :
    Calls Try.prog 23 #[.agg #[.int .u64 a0, .int .u64 a1, .int .u64 a2, .int .u64 a3], .int .i64 n] w fun e w' => e = .returned (.agg #[.int .u64 r0, .int .u64 r1, .int .u64 r2, .int .u64 r3]) ∧ Below w.heap.size w w' := by
  simp only [Bool.and_eq_true] at h
  obtain ⟨⟨⟨⟨⟨h0, h1⟩, h2⟩, h3⟩, hn⟩, hr⟩ := h
  have hA := IsWide.val (isU64_mk h0) (isU64_mk h1) (isU64_mk h2) (isU64_mk h3)
  refine (WideJam_at hA n (isI64_mk hn).1 (isI64_mk hn).2 w).mono fun e w' ⟨he, hk⟩ => ⟨?_, hk⟩
  rw [he, ← jam_cap hA.w, litWide_mk hr]
theorem WideRight_lit (a0 a1 a2 a3 n r0 r1 r2 r3 : Int) (h : (isU64 a0 && isU64 a1 && isU64 a2 && isU64 a3 && isI64 n && litWide (rightN (val4 a0 a1 a2 a3) (capI n)) r0 r1 r2 r3) = true) (w : World) :
    Calls Try.prog 22 #[.agg #[.int .u64 a0, .int .u64 a1, .int .u64 a2, .int .u64 a3], .int .i64 n] w fun e w' => e = .returned (.agg #[.int .u64 r0, .int .u64 r1, .int .u64 r2, .int .u64 r3]) ∧ Below w.heap.size w w' := by
  simp only [Bool.and_eq_true] at h
  obtain ⟨⟨⟨⟨⟨h0, h1⟩, h2⟩, h3⟩, hn⟩, hr⟩ := h
  have hA := IsWide.val (isU64_mk h0) (isU64_mk h1) (isU64_mk h2) (isU64_mk h3)
  refine (WideRight_at hA n (isI64_mk hn).1 (isI64_mk hn).2 w).mono fun e w' ⟨he, hk⟩ => ⟨?_, hk⟩
  rw [he, ← right_cap hA.w, litWide_mk hr]
theorem Lost_lit (a0 a1 a2 a3 n : Int) (c : Bool) (h : (isU64 a0 && isU64 a1 && isU64 a2 && isU64 a3 && isI64 n && (lostB (val4 a0 a1 a2 a3) (capI n) == c)) = true) (w : World) :
    Calls Try.prog 24 #[.agg #[.int .u64 a0, .int .u64 a1, .int .u64 a2, .int .u64 a3], .int .i64 n] w fun e w' => e = .returned (.bool c) ∧ Below w.heap.size w w' := by
  simp only [Bool.and_eq_true, beq_iff_eq] at h
  obtain ⟨⟨⟨⟨⟨h0, h1⟩, h2⟩, h3⟩, hn⟩, hr⟩ := h
  have hA := IsWide.val (isU64_mk h0) (isU64_mk h1) (isU64_mk h2) (isU64_mk h3)
  refine (Lost_at hA n (isI64_mk hn).1 (isI64_mk hn).2 w).mono fun e w' ⟨he, hk⟩ => ⟨?_, hk⟩
  rw [he, ← lost_cap hA.w, hr]

set_option maxHeartbeats 1000000 in
theorem goes03_any (w : World) :
    Calls Try.prog 18 #[] w fun e w' => e = .returned (.bool true) ∧ Below w.heap.size w w' := by
  have hk := Kept.refl w
  have hE := Known.nil w
  go_enter Try.func18, Try.ntmps18
  go_wp2_with (first
    | (go_at_call 14; refine (Right_lit _ _ _ 0 2 (by decide +kernel) _).mono ?_; rintro e w' ⟨rfl, hb⟩; replace hE : Known _ w' := Known.step hE (by refine Kept.below ?_; repeat (first | exact Kept.refl _ | refine Kept.alloc ?_ _ | refine Kept.drew ?_ | refine Kept.setCell ?_ (by simp) _)) hb; have hR := hE; (simp only [Known, and_true] at hR); replace hk : Kept w.heap.size w w' := Kept.step (by repeat (first | exact hk | refine Kept.alloc ?_ _ | refine Kept.drew ?_ | refine Kept.setCell ?_ (by simp; omega) _)) hb; have hz := hb.size; (try simp only [World.size_alloc, World.size_setCell] at hz); clear hb)
    | (go_at_call 16; refine (Jam_lit _ _ _ 0 3 (by decide +kernel) _).mono ?_; rintro e w' ⟨rfl, hb⟩; replace hE : Known _ w' := Known.step hE (by refine Kept.below ?_; repeat (first | exact Kept.refl _ | refine Kept.alloc ?_ _ | refine Kept.drew ?_ | refine Kept.setCell ?_ (by simp) _)) hb; have hR := hE; (simp only [Known, and_true] at hR); replace hk : Kept w.heap.size w w' := Kept.step (by repeat (first | exact hk | refine Kept.alloc ?_ _ | refine Kept.drew ?_ | refine Kept.setCell ?_ (by simp; omega) _)) hb; have hz := hb.size; (try simp only [World.size_alloc, World.size_setCell] at hz); clear hb)
    | (go_at_call 16; refine (Jam_lit _ _ _ 0 1 (by decide +kernel) _).mono ?_; rintro e w' ⟨rfl, hb⟩; replace hE : Known _ w' := Known.step hE (by refine Kept.below ?_; repeat (first | exact Kept.refl _ | refine Kept.alloc ?_ _ | refine Kept.drew ?_ | refine Kept.setCell ?_ (by simp) _)) hb; have hR := hE; (simp only [Known, and_true] at hR); replace hk : Kept w.heap.size w w' := Kept.step (by repeat (first | exact hk | refine Kept.alloc ?_ _ | refine Kept.drew ?_ | refine Kept.setCell ?_ (by simp; omega) _)) hb; have hz := hb.size; (try simp only [World.size_alloc, World.size_setCell] at hz); clear hb)
    | (go_at_call 11; refine (Left_lit _ _ _ 9223372036854775808 0 (by decide +kernel) _).mono ?_; rintro e w' ⟨rfl, hb⟩; replace hE : Known _ w' := Known.step hE (by refine Kept.below ?_; repeat (first | exact Kept.refl _ | refine Kept.alloc ?_ _ | refine Kept.drew ?_ | refine Kept.setCell ?_ (by simp) _)) hb; have hR := hE; (simp only [Known, and_true] at hR); replace hk : Kept w.heap.size w w' := Kept.step (by repeat (first | exact hk | refine Kept.alloc ?_ _ | refine Kept.drew ?_ | refine Kept.setCell ?_ (by simp; omega) _)) hb; have hz := hb.size; (try simp only [World.size_alloc, World.size_setCell] at hz); clear hb)
    | (go_at_call 24; refine (Lost_lit _ _ _ _ _ true (by decide +kernel) _).mono ?_; rintro e w' ⟨rfl, hb⟩; replace hE : Known _ w' := Known.step hE (by refine Kept.below ?_; repeat (first | exact Kept.refl _ | refine Kept.alloc ?_ _ | refine Kept.drew ?_ | refine Kept.setCell ?_ (by simp) _)) hb; have hR := hE; (simp only [Known, and_true] at hR); replace hk : Kept w.heap.size w w' := Kept.step (by repeat (first | exact hk | refine Kept.alloc ?_ _ | refine Kept.drew ?_ | refine Kept.setCell ?_ (by simp; omega) _)) hb; have hz := hb.size; (try simp only [World.size_alloc, World.size_setCell] at hz); clear hb))
  go_ret
  exact ⟨rfl, (by refine Kept.below ?_; repeat (first | exact Kept.refl _ | exact hk | refine Kept.alloc ?_ _ | refine Kept.drew ?_ | refine Kept.setCell ?_ (by simp; try omega) _))⟩

end Go.Proofs.Ytglagdmfplgfaaa
