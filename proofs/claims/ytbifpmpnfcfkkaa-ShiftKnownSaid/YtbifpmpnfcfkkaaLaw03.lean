/- The walks of the statements of layer 3 that do not ask the document's answer. -/
import Derived.Test.YtbifpmpnfcfkkaaNum3
import Derived.Test.YtbifpmpnfcfkkaaWordLit
namespace Go.Proofs.Ytbifpmpnfcfkkaa
open Go.RowKit

def litWide (R : Nat) (r0 r1 r2 r3 : Int) : Bool := decide (limb 0 R = r0) && decide (limb 1 R = r1) && decide (limb 2 R = r2) && decide (limb 3 R = r3)
theorem litWide_mk {R : Nat} {r0 r1 r2 r3 : Int} (h : litWide R r0 r1 r2 r3 = true) : wideV R = .agg #[.int .u64 r0, .int .u64 r1, .int .u64 r2, .int .u64 r3] := by
  unfold litWide at h; simp only [Bool.and_eq_true, decide_eq_true_eq] at h
  unfold wideV; rw [h.1.1.1, h.1.1.2, h.1.2, h.2]
def isI64 (n : Int) : Bool := decide (-9223372036854775808 ≤ n) && decide (n ≤ 9223372036854775807)
theorem isI64_mk {n : Int} (h : isI64 n = true) : -9223372036854775808 ≤ n ∧ n ≤ 9223372036854775807 := by unfold isI64 at h; simpa using h
theorem Left_lit (a1 a0 n r1 r0 : Int) (h : (isU64 a1 && isU64 a0 && isI64 n && litBits (left128 (val2 a0 a1) n) r1 r0) = true) (w : World) :
    Calls Try.prog 24 #[.agg #[.int .u64 a1, .int .u64 a0], .int .i64 n] w fun e w' => e = .returned (.agg #[.int .u64 r1, .int .u64 r0]) ∧ Below w.heap.size w w' := by
  simp only [Bool.and_eq_true] at h
  obtain ⟨⟨⟨h1, h0⟩, hn⟩, hr⟩ := h
  have hA := IsBits.val (isU64_mk h1) (isU64_mk h0)
  refine (Left_at hA n (isI64_mk hn).1 (isI64_mk hn).2 w).mono fun e w' ⟨he, hk⟩ => ⟨?_, hk⟩
  rw [he,  litBits_mk hr]
theorem Right_lit (a1 a0 n r1 r0 : Int) (h : (isU64 a1 && isU64 a0 && isI64 n && litBits (rightN (val2 a0 a1) (capI n)) r1 r0) = true) (w : World) :
    Calls Try.prog 27 #[.agg #[.int .u64 a1, .int .u64 a0], .int .i64 n] w fun e w' => e = .returned (.agg #[.int .u64 r1, .int .u64 r0]) ∧ Below w.heap.size w w' := by
  simp only [Bool.and_eq_true] at h
  obtain ⟨⟨⟨h1, h0⟩, hn⟩, hr⟩ := h
  have hA := IsBits.val (isU64_mk h1) (isU64_mk h0)
  refine (Right_at hA n (isI64_mk hn).1 (isI64_mk hn).2 w).mono fun e w' ⟨he, hk⟩ => ⟨?_, hk⟩
  rw [he, ← right_cap (w128_256 hA.w),  litBits_mk hr]
theorem Jam_lit (a1 a0 n r1 r0 : Int) (h : (isU64 a1 && isU64 a0 && isI64 n && litBits (jamN (val2 a0 a1) (capI n)) r1 r0) = true) (w : World) :
    Calls Try.prog 29 #[.agg #[.int .u64 a1, .int .u64 a0], .int .i64 n] w fun e w' => e = .returned (.agg #[.int .u64 r1, .int .u64 r0]) ∧ Below w.heap.size w w' := by
  simp only [Bool.and_eq_true] at h
  obtain ⟨⟨⟨h1, h0⟩, hn⟩, hr⟩ := h
  have hA := IsBits.val (isU64_mk h1) (isU64_mk h0)
  refine (Jam_at hA n (isI64_mk hn).1 (isI64_mk hn).2 w).mono fun e w' ⟨he, hk⟩ => ⟨?_, hk⟩
  rw [he, ← jam_cap (w128_256 hA.w),  litBits_mk hr]
theorem WideLeft_lit (a0 a1 a2 a3 n r0 r1 r2 r3 : Int) (h : (isU64 a0 && isU64 a1 && isU64 a2 && isU64 a3 && isI64 n && litWide (left256 (val4 a0 a1 a2 a3) n) r0 r1 r2 r3) = true) (w : World) :
    Calls Try.prog 35 #[.agg #[.int .u64 a0, .int .u64 a1, .int .u64 a2, .int .u64 a3], .int .i64 n] w fun e w' => e = .returned (.agg #[.int .u64 r0, .int .u64 r1, .int .u64 r2, .int .u64 r3]) ∧ Below w.heap.size w w' := by
  simp only [Bool.and_eq_true] at h
  obtain ⟨⟨⟨⟨⟨h0, h1⟩, h2⟩, h3⟩, hn⟩, hr⟩ := h
  have hA := IsWide.val (isU64_mk h0) (isU64_mk h1) (isU64_mk h2) (isU64_mk h3)
  refine (WideLeft_at hA n (isI64_mk hn).1 (isI64_mk hn).2 w).mono fun e w' ⟨he, hk⟩ => ⟨?_, hk⟩
  rw [he,  litWide_mk hr]
theorem WideJam_lit (a0 a1 a2 a3 n r0 r1 r2 r3 : Int) (h : (isU64 a0 && isU64 a1 && isU64 a2 && isU64 a3 && isI64 n && litWide (jamN (val4 a0 a1 a2 a3) (capI n)) r0 r1 r2 r3) = true) (w : World) :
    Calls Try.prog 38 #[.agg #[.int .u64 a0, .int .u64 a1, .int .u64 a2, .int .u64 a3], .int .i64 n] w fun e w' => e = .returned (.agg #[.int .u64 r0, .int .u64 r1, .int .u64 r2, .int .u64 r3]) ∧ Below w.heap.size w w' := by
  simp only [Bool.and_eq_true] at h
  obtain ⟨⟨⟨⟨⟨h0, h1⟩, h2⟩, h3⟩, hn⟩, hr⟩ := h
  have hA := IsWide.val (isU64_mk h0) (isU64_mk h1) (isU64_mk h2) (isU64_mk h3)
  refine (WideJam_at hA n (isI64_mk hn).1 (isI64_mk hn).2 w).mono fun e w' ⟨he, hk⟩ => ⟨?_, hk⟩
  rw [he, ← jam_cap hA.w, litWide_mk hr]
theorem WideRight_lit (a0 a1 a2 a3 n r0 r1 r2 r3 : Int) (h : (isU64 a0 && isU64 a1 && isU64 a2 && isU64 a3 && isI64 n && litWide (rightN (val4 a0 a1 a2 a3) (capI n)) r0 r1 r2 r3) = true) (w : World) :
    Calls Try.prog 37 #[.agg #[.int .u64 a0, .int .u64 a1, .int .u64 a2, .int .u64 a3], .int .i64 n] w fun e w' => e = .returned (.agg #[.int .u64 r0, .int .u64 r1, .int .u64 r2, .int .u64 r3]) ∧ Below w.heap.size w w' := by
  simp only [Bool.and_eq_true] at h
  obtain ⟨⟨⟨⟨⟨h0, h1⟩, h2⟩, h3⟩, hn⟩, hr⟩ := h
  have hA := IsWide.val (isU64_mk h0) (isU64_mk h1) (isU64_mk h2) (isU64_mk h3)
  refine (WideRight_at hA n (isI64_mk hn).1 (isI64_mk hn).2 w).mono fun e w' ⟨he, hk⟩ => ⟨?_, hk⟩
  rw [he, ← right_cap hA.w, litWide_mk hr]
theorem Lost_lit (a0 a1 a2 a3 n : Int) (c : Bool) (h : (isU64 a0 && isU64 a1 && isU64 a2 && isU64 a3 && isI64 n && (lostB (val4 a0 a1 a2 a3) (capI n) == c)) = true) (w : World) :
    Calls Try.prog 39 #[.agg #[.int .u64 a0, .int .u64 a1, .int .u64 a2, .int .u64 a3], .int .i64 n] w fun e w' => e = .returned (.bool c) ∧ Below w.heap.size w w' := by
  simp only [Bool.and_eq_true, beq_iff_eq] at h
  obtain ⟨⟨⟨⟨⟨h0, h1⟩, h2⟩, h3⟩, hn⟩, hr⟩ := h
  have hA := IsWide.val (isU64_mk h0) (isU64_mk h1) (isU64_mk h2) (isU64_mk h3)
  refine (Lost_at hA n (isI64_mk hn).1 (isI64_mk hn).2 w).mono fun e w' ⟨he, hk⟩ => ⟨?_, hk⟩
  rw [he, ← lost_cap hA.w, hr]

set_option maxHeartbeats 1000000 in
theorem goes03_any (w : World) :
    Calls Try.prog 31 #[] w fun e w' => e = .returned (.bool true) ∧ Below w.heap.size w w' := by
  have hk := Kept.refl w
  have hE := Known.nil w
  go_enter Try.func31, Try.ntmps31
  go_wp2_with (first
    | (go_at_call 27; refine (Right_lit _ _ _ 0 2 (by decide +kernel) _).mono ?_; rintro e w' ⟨rfl, hb⟩; replace hE : Known _ w' := Known.step hE (by refine Kept.below ?_; repeat (first | exact Kept.refl _ | refine Kept.alloc ?_ _ | refine Kept.drew ?_ | refine Kept.setCell ?_ (by simp) _)) hb; have hR := hE; (simp only [Known, and_true] at hR); replace hk : Kept w.heap.size w w' := Kept.step (by repeat (first | exact hk | refine Kept.alloc ?_ _ | refine Kept.drew ?_ | refine Kept.setCell ?_ (by simp; omega) _)) hb; have hz := hb.size; (try simp only [World.size_alloc, World.size_setCell] at hz); clear hb)
    | (go_at_call 29; refine (Jam_lit _ _ _ 0 3 (by decide +kernel) _).mono ?_; rintro e w' ⟨rfl, hb⟩; replace hE : Known _ w' := Known.step hE (by refine Kept.below ?_; repeat (first | exact Kept.refl _ | refine Kept.alloc ?_ _ | refine Kept.drew ?_ | refine Kept.setCell ?_ (by simp) _)) hb; have hR := hE; (simp only [Known, and_true] at hR); replace hk : Kept w.heap.size w w' := Kept.step (by repeat (first | exact hk | refine Kept.alloc ?_ _ | refine Kept.drew ?_ | refine Kept.setCell ?_ (by simp; omega) _)) hb; have hz := hb.size; (try simp only [World.size_alloc, World.size_setCell] at hz); clear hb)
    | (go_at_call 29; refine (Jam_lit _ _ _ 0 1 (by decide +kernel) _).mono ?_; rintro e w' ⟨rfl, hb⟩; replace hE : Known _ w' := Known.step hE (by refine Kept.below ?_; repeat (first | exact Kept.refl _ | refine Kept.alloc ?_ _ | refine Kept.drew ?_ | refine Kept.setCell ?_ (by simp) _)) hb; have hR := hE; (simp only [Known, and_true] at hR); replace hk : Kept w.heap.size w w' := Kept.step (by repeat (first | exact hk | refine Kept.alloc ?_ _ | refine Kept.drew ?_ | refine Kept.setCell ?_ (by simp; omega) _)) hb; have hz := hb.size; (try simp only [World.size_alloc, World.size_setCell] at hz); clear hb)
    | (go_at_call 24; refine (Left_lit _ _ _ 9223372036854775808 0 (by decide +kernel) _).mono ?_; rintro e w' ⟨rfl, hb⟩; replace hE : Known _ w' := Known.step hE (by refine Kept.below ?_; repeat (first | exact Kept.refl _ | refine Kept.alloc ?_ _ | refine Kept.drew ?_ | refine Kept.setCell ?_ (by simp) _)) hb; have hR := hE; (simp only [Known, and_true] at hR); replace hk : Kept w.heap.size w w' := Kept.step (by repeat (first | exact hk | refine Kept.alloc ?_ _ | refine Kept.drew ?_ | refine Kept.setCell ?_ (by simp; omega) _)) hb; have hz := hb.size; (try simp only [World.size_alloc, World.size_setCell] at hz); clear hb)
    | (go_at_call 39; refine (Lost_lit _ _ _ _ _ true (by decide +kernel) _).mono ?_; rintro e w' ⟨rfl, hb⟩; replace hE : Known _ w' := Known.step hE (by refine Kept.below ?_; repeat (first | exact Kept.refl _ | refine Kept.alloc ?_ _ | refine Kept.drew ?_ | refine Kept.setCell ?_ (by simp) _)) hb; have hR := hE; (simp only [Known, and_true] at hR); replace hk : Kept w.heap.size w w' := Kept.step (by repeat (first | exact hk | refine Kept.alloc ?_ _ | refine Kept.drew ?_ | refine Kept.setCell ?_ (by simp; omega) _)) hb; have hz := hb.size; (try simp only [World.size_alloc, World.size_setCell] at hz); clear hb))
  go_ret
  exact ⟨rfl, (by refine Kept.below ?_; repeat (first | exact Kept.refl _ | exact hk | refine Kept.alloc ?_ _ | refine Kept.drew ?_ | refine Kept.setCell ?_ (by simp; try omega) _))⟩

set_option maxHeartbeats 2000000 in
theorem ShiftTwice_walk {A : Nat} (hA : W256 A) (n m : Int) (n0 : 0 ≤ n) (n1 : n ≤ 65535) (m0 : 0 ≤ m) (m1 : m ≤ 65535) (w : World) :
    Calls Try.prog 10 #[wideV A, .int .u16 n, .int .u16 m] w fun e w' => e = .returned (.bool true) ∧ Below w.heap.size w w' := by
  have f0 : IntKind.i64.wrap (n % 300 + m % 300) = n % 300 + m % 300 := IntWalk.i64_in _ (by omega)
  have f1 := right_right A (x := n % 300) (y := m % 300) (by omega) (by omega)
  have f2 := left_left A (x := n % 300) (y := m % 300) (by omega) (by omega)
  have f3 := jam_jam A (x := n % 300) (y := m % 300) (by omega) (by omega)
  have hs : ∀ W W' : World, Below W.heap.size W W' → (Kept w.heap.size w W ∧ w.heap.size < W.heap.size ∧ W.cell? ⟨w.heap.size, 0, none⟩ = some (.int .u64 (limb 0 A)) ∧ W.cell? ⟨w.heap.size, 1, none⟩ = some (.int .u64 (limb 1 A)) ∧ W.cell? ⟨w.heap.size, 2, none⟩ = some (.int .u64 (limb 2 A)) ∧ W.cell? ⟨w.heap.size, 3, none⟩ = some (.int .u64 (limb 3 A))) → (Kept w.heap.size w W' ∧ w.heap.size < W'.heap.size ∧ W'.cell? ⟨w.heap.size, 0, none⟩ = some (.int .u64 (limb 0 A)) ∧ W'.cell? ⟨w.heap.size, 1, none⟩ = some (.int .u64 (limb 1 A)) ∧ W'.cell? ⟨w.heap.size, 2, none⟩ = some (.int .u64 (limb 2 A)) ∧ W'.cell? ⟨w.heap.size, 3, none⟩ = some (.int .u64 (limb 3 A))) := fun W W' hb h => ⟨h.1.step hb, Nat.lt_of_lt_of_le (h.2.1) hb.size, (hb.cell (h.2.1)).trans (h.2.2.1), (hb.cell (h.2.1)).trans (h.2.2.2.1), (hb.cell (h.2.1)).trans (h.2.2.2.2.1), (hb.cell (h.2.1)).trans (h.2.2.2.2.2)⟩
  have HS := Lib.hid hs; clear hs
  go_enter Try.func10, Try.ntmps10
  go_wp2
  go_region_held3 (fun W' => Kept w.heap.size w W' ∧ w.heap.size < W'.heap.size ∧ W'.cell? ⟨w.heap.size, 0, none⟩ = some (.int .u64 (limb 0 A)) ∧ W'.cell? ⟨w.heap.size, 1, none⟩ = some (.int .u64 (limb 1 A)) ∧ W'.cell? ⟨w.heap.size, 2, none⟩ = some (.int .u64 (limb 2 A)) ∧ W'.cell? ⟨w.heap.size, 3, none⟩ = some (.int .u64 (limb 3 A)))
    ((first | (with_reducible exact HS.out _ _ (by assumption) (by assumption)) | assumption | (with_reducible exact HS.out _ _ ((Below.refl _ _).drew) (by assumption)) | exact ⟨by repeat (first | with_reducible assumption | with_reducible exact Kept.refl _ | with_reducible refine Kept.alloc ?_ _ | with_reducible refine Kept.drew ?_ | with_reducible refine Kept.setCell ?_ (by simp; try omega) _), by go_simp, by go_simp, by go_simp, by go_simp, by go_simp⟩))
    (first
      | (go_at_call 37; refine (WideRight_at (by first | (refine IsWide.of ?_; repeat (first | assumption | exact left_w _ _ | refine right_w ?_ _ | refine jam_w ?_ _ | exact w128_256 (by assumption))) | exact wide_two (by assumption) | exact wide_up (by assumption) | (refine IsWide.val ?_ ?_ ?_ ?_ <;> first | assumption | exact u64_zero | exact limb_u64 _ _ | exact isU64_mk (by decide +kernel))) _ (by omega) (by omega) _).mono ?_; rintro e w' ⟨rfl, hb⟩)
      | (go_at_call 35; refine (WideLeft_at (by first | (refine IsWide.of ?_; repeat (first | assumption | exact left_w _ _ | refine right_w ?_ _ | refine jam_w ?_ _ | exact w128_256 (by assumption))) | exact wide_two (by assumption) | exact wide_up (by assumption) | (refine IsWide.val ?_ ?_ ?_ ?_ <;> first | assumption | exact u64_zero | exact limb_u64 _ _ | exact isU64_mk (by decide +kernel))) _ (by omega) (by omega) _).mono ?_; rintro e w' ⟨rfl, hb⟩)
      | (go_at_call 38; refine (WideJam_at (by first | (refine IsWide.of ?_; repeat (first | assumption | exact left_w _ _ | refine right_w ?_ _ | refine jam_w ?_ _ | exact w128_256 (by assumption))) | exact wide_two (by assumption) | exact wide_up (by assumption) | (refine IsWide.val ?_ ?_ ?_ ?_ <;> first | assumption | exact u64_zero | exact limb_u64 _ _ | exact isU64_mk (by decide +kernel))) _ (by omega) (by omega) _).mono ?_; rintro e w' ⟨rfl, hb⟩)
      | (go_at_call 31; refine (goes03_any _).mono ?_; rintro e w' ⟨rfl, hb⟩))
  all_goals go_wp2
  all_goals go_ret
  all_goals (refine ⟨rfl, ?_⟩; apply kept_of; assumption)

set_option maxHeartbeats 2000000 in
theorem ShiftOrder_le {A B : Nat} (hA : W256 A) (hB : W256 B) (h : A ≤ B) (n : Int) (n0 : -9223372036854775808 ≤ n) (n1 : n ≤ 9223372036854775807) (w : World) :
    Calls Try.prog 14 #[wideV A, wideV B, .int .i64 n] w fun e w' => e = .returned (.bool true) ∧ Below w.heap.size w w' := by
  have f1 := cmp_le.2 h
  have f2 := cmp_le.2 (right_mono h n)
  have f3 := cmp_le.2 (jam_mono h n)
  clear h
  have hs : ∀ W W' : World, Below W.heap.size W W' → (Kept w.heap.size w W ∧ w.heap.size < W.heap.size ∧ w.heap.size + 1 < W.heap.size ∧ W.cell? ⟨w.heap.size, 0, none⟩ = some (.int .u64 (limb 0 A)) ∧ W.cell? ⟨w.heap.size, 1, none⟩ = some (.int .u64 (limb 1 A)) ∧ W.cell? ⟨w.heap.size, 2, none⟩ = some (.int .u64 (limb 2 A)) ∧ W.cell? ⟨w.heap.size, 3, none⟩ = some (.int .u64 (limb 3 A)) ∧ W.cell? ⟨w.heap.size + 1, 0, none⟩ = some (.int .u64 (limb 0 B)) ∧ W.cell? ⟨w.heap.size + 1, 1, none⟩ = some (.int .u64 (limb 1 B)) ∧ W.cell? ⟨w.heap.size + 1, 2, none⟩ = some (.int .u64 (limb 2 B)) ∧ W.cell? ⟨w.heap.size + 1, 3, none⟩ = some (.int .u64 (limb 3 B))) → (Kept w.heap.size w W' ∧ w.heap.size < W'.heap.size ∧ w.heap.size + 1 < W'.heap.size ∧ W'.cell? ⟨w.heap.size, 0, none⟩ = some (.int .u64 (limb 0 A)) ∧ W'.cell? ⟨w.heap.size, 1, none⟩ = some (.int .u64 (limb 1 A)) ∧ W'.cell? ⟨w.heap.size, 2, none⟩ = some (.int .u64 (limb 2 A)) ∧ W'.cell? ⟨w.heap.size, 3, none⟩ = some (.int .u64 (limb 3 A)) ∧ W'.cell? ⟨w.heap.size + 1, 0, none⟩ = some (.int .u64 (limb 0 B)) ∧ W'.cell? ⟨w.heap.size + 1, 1, none⟩ = some (.int .u64 (limb 1 B)) ∧ W'.cell? ⟨w.heap.size + 1, 2, none⟩ = some (.int .u64 (limb 2 B)) ∧ W'.cell? ⟨w.heap.size + 1, 3, none⟩ = some (.int .u64 (limb 3 B))) := fun W W' hb h => ⟨h.1.step hb, Nat.lt_of_lt_of_le (h.2.1) hb.size, Nat.lt_of_lt_of_le (h.2.2.1) hb.size, (hb.cell (h.2.1)).trans (h.2.2.2.1), (hb.cell (h.2.1)).trans (h.2.2.2.2.1), (hb.cell (h.2.1)).trans (h.2.2.2.2.2.1), (hb.cell (h.2.1)).trans (h.2.2.2.2.2.2.1), (hb.cell (h.2.2.1)).trans (h.2.2.2.2.2.2.2.1), (hb.cell (h.2.2.1)).trans (h.2.2.2.2.2.2.2.2.1), (hb.cell (h.2.2.1)).trans (h.2.2.2.2.2.2.2.2.2.1), (hb.cell (h.2.2.1)).trans (h.2.2.2.2.2.2.2.2.2.2)⟩
  have HS := Lib.hid hs; clear hs
  go_enter Try.func14, Try.ntmps14
  have hk := Kept.refl w
  have hE := Known.nil w
  go_wp2_with (first
    | (go_at_call 43; refine (CmpW_at (by first | (refine IsWide.of ?_; repeat (first | assumption | exact left_w _ _ | refine right_w ?_ _ | refine jam_w ?_ _ | exact w128_256 (by assumption))) | exact wide_two (by assumption) | exact wide_up (by assumption) | (refine IsWide.val ?_ ?_ ?_ ?_ <;> first | assumption | exact u64_zero | exact limb_u64 _ _ | exact isU64_mk (by decide +kernel))) (by first | (refine IsWide.of ?_; repeat (first | assumption | exact left_w _ _ | refine right_w ?_ _ | refine jam_w ?_ _ | exact w128_256 (by assumption))) | exact wide_two (by assumption) | exact wide_up (by assumption) | (refine IsWide.val ?_ ?_ ?_ ?_ <;> first | assumption | exact u64_zero | exact limb_u64 _ _ | exact isU64_mk (by decide +kernel))) _).mono ?_; rintro e w' ⟨rfl, hb⟩; replace hE : Known _ w' := Known.step hE (by refine Kept.below ?_; repeat (first | exact Kept.refl _ | refine Kept.alloc ?_ _ | refine Kept.drew ?_ | refine Kept.setCell ?_ (by simp) _)) hb; have hR := hE; (simp only [Known, and_true] at hR); replace hk : Kept w.heap.size w w' := Kept.step (by repeat (first | exact hk | refine Kept.alloc ?_ _ | refine Kept.drew ?_ | refine Kept.setCell ?_ (by simp; omega) _)) hb; have hz := hb.size; (try simp only [World.size_alloc] at hz); clear hb))
  go_region_held3 (fun W' => Kept w.heap.size w W' ∧ w.heap.size < W'.heap.size ∧ w.heap.size + 1 < W'.heap.size ∧ W'.cell? ⟨w.heap.size, 0, none⟩ = some (.int .u64 (limb 0 A)) ∧ W'.cell? ⟨w.heap.size, 1, none⟩ = some (.int .u64 (limb 1 A)) ∧ W'.cell? ⟨w.heap.size, 2, none⟩ = some (.int .u64 (limb 2 A)) ∧ W'.cell? ⟨w.heap.size, 3, none⟩ = some (.int .u64 (limb 3 A)) ∧ W'.cell? ⟨w.heap.size + 1, 0, none⟩ = some (.int .u64 (limb 0 B)) ∧ W'.cell? ⟨w.heap.size + 1, 1, none⟩ = some (.int .u64 (limb 1 B)) ∧ W'.cell? ⟨w.heap.size + 1, 2, none⟩ = some (.int .u64 (limb 2 B)) ∧ W'.cell? ⟨w.heap.size + 1, 3, none⟩ = some (.int .u64 (limb 3 B)))
    ((first | (with_reducible exact HS.out _ _ (by assumption) (by assumption)) | assumption | (with_reducible exact HS.out _ _ ((Below.refl _ _).drew) (by assumption)) | exact ⟨by repeat (first | with_reducible assumption | with_reducible exact Kept.refl _ | with_reducible refine Kept.alloc ?_ _ | with_reducible refine Kept.drew ?_ | with_reducible refine Kept.setCell ?_ (by simp; try omega) _), by go_simp, by go_simp, by go_simp, by go_simp, by go_simp, by go_simp, by go_simp, by go_simp, by go_simp, by go_simp⟩))
    (first
      | (go_at_call 43; refine (CmpW_at (by first | (refine IsWide.of ?_; repeat (first | assumption | exact left_w _ _ | refine right_w ?_ _ | refine jam_w ?_ _ | exact w128_256 (by assumption))) | exact wide_two (by assumption) | exact wide_up (by assumption) | (refine IsWide.val ?_ ?_ ?_ ?_ <;> first | assumption | exact u64_zero | exact limb_u64 _ _ | exact isU64_mk (by decide +kernel))) (by first | (refine IsWide.of ?_; repeat (first | assumption | exact left_w _ _ | refine right_w ?_ _ | refine jam_w ?_ _ | exact w128_256 (by assumption))) | exact wide_two (by assumption) | exact wide_up (by assumption) | (refine IsWide.val ?_ ?_ ?_ ?_ <;> first | assumption | exact u64_zero | exact limb_u64 _ _ | exact isU64_mk (by decide +kernel))) _).mono ?_; rintro e w' ⟨rfl, hb⟩)
      | (go_at_call 37; refine (WideRight_at (by first | (refine IsWide.of ?_; repeat (first | assumption | exact left_w _ _ | refine right_w ?_ _ | refine jam_w ?_ _ | exact w128_256 (by assumption))) | exact wide_two (by assumption) | exact wide_up (by assumption) | (refine IsWide.val ?_ ?_ ?_ ?_ <;> first | assumption | exact u64_zero | exact limb_u64 _ _ | exact isU64_mk (by decide +kernel))) _ (by omega) (by omega) _).mono ?_; rintro e w' ⟨rfl, hb⟩)
      | (go_at_call 38; refine (WideJam_at (by first | (refine IsWide.of ?_; repeat (first | assumption | exact left_w _ _ | refine right_w ?_ _ | refine jam_w ?_ _ | exact w128_256 (by assumption))) | exact wide_two (by assumption) | exact wide_up (by assumption) | (refine IsWide.val ?_ ?_ ?_ ?_ <;> first | assumption | exact u64_zero | exact limb_u64 _ _ | exact isU64_mk (by decide +kernel))) _ (by omega) (by omega) _).mono ?_; rintro e w' ⟨rfl, hb⟩)
      | (go_at_call 31; refine (goes03_any _).mono ?_; rintro e w' ⟨rfl, hb⟩))
  all_goals go_wp2
  all_goals go_ret
  all_goals (refine ⟨rfl, ?_⟩; apply kept_of; assumption)

set_option maxHeartbeats 2000000 in
theorem ShiftOrder_gt {A B : Nat} (hA : W256 A) (hB : W256 B) (h : B < A) (n : Int) (n0 : -9223372036854775808 ≤ n) (n1 : n ≤ 9223372036854775807) (w : World) :
    Calls Try.prog 14 #[wideV A, wideV B, .int .i64 n] w fun e w' => e = .returned (.bool true) ∧ Below w.heap.size w w' := by
  have f1 := cmp_gt h
  have f2 := cmp_le.2 (right_mono (Nat.le_of_lt h) n)
  have f3 := cmp_le.2 (jam_mono (Nat.le_of_lt h) n)
  clear h
  have hs : ∀ W W' : World, Below W.heap.size W W' → (Kept w.heap.size w W ∧ w.heap.size < W.heap.size ∧ w.heap.size + 1 < W.heap.size ∧ W.cell? ⟨w.heap.size, 0, none⟩ = some (.int .u64 (limb 0 B)) ∧ W.cell? ⟨w.heap.size, 1, none⟩ = some (.int .u64 (limb 1 B)) ∧ W.cell? ⟨w.heap.size, 2, none⟩ = some (.int .u64 (limb 2 B)) ∧ W.cell? ⟨w.heap.size, 3, none⟩ = some (.int .u64 (limb 3 B)) ∧ W.cell? ⟨w.heap.size + 1, 0, none⟩ = some (.int .u64 (limb 0 A)) ∧ W.cell? ⟨w.heap.size + 1, 1, none⟩ = some (.int .u64 (limb 1 A)) ∧ W.cell? ⟨w.heap.size + 1, 2, none⟩ = some (.int .u64 (limb 2 A)) ∧ W.cell? ⟨w.heap.size + 1, 3, none⟩ = some (.int .u64 (limb 3 A))) → (Kept w.heap.size w W' ∧ w.heap.size < W'.heap.size ∧ w.heap.size + 1 < W'.heap.size ∧ W'.cell? ⟨w.heap.size, 0, none⟩ = some (.int .u64 (limb 0 B)) ∧ W'.cell? ⟨w.heap.size, 1, none⟩ = some (.int .u64 (limb 1 B)) ∧ W'.cell? ⟨w.heap.size, 2, none⟩ = some (.int .u64 (limb 2 B)) ∧ W'.cell? ⟨w.heap.size, 3, none⟩ = some (.int .u64 (limb 3 B)) ∧ W'.cell? ⟨w.heap.size + 1, 0, none⟩ = some (.int .u64 (limb 0 A)) ∧ W'.cell? ⟨w.heap.size + 1, 1, none⟩ = some (.int .u64 (limb 1 A)) ∧ W'.cell? ⟨w.heap.size + 1, 2, none⟩ = some (.int .u64 (limb 2 A)) ∧ W'.cell? ⟨w.heap.size + 1, 3, none⟩ = some (.int .u64 (limb 3 A))) := fun W W' hb h => ⟨h.1.step hb, Nat.lt_of_lt_of_le (h.2.1) hb.size, Nat.lt_of_lt_of_le (h.2.2.1) hb.size, (hb.cell (h.2.1)).trans (h.2.2.2.1), (hb.cell (h.2.1)).trans (h.2.2.2.2.1), (hb.cell (h.2.1)).trans (h.2.2.2.2.2.1), (hb.cell (h.2.1)).trans (h.2.2.2.2.2.2.1), (hb.cell (h.2.2.1)).trans (h.2.2.2.2.2.2.2.1), (hb.cell (h.2.2.1)).trans (h.2.2.2.2.2.2.2.2.1), (hb.cell (h.2.2.1)).trans (h.2.2.2.2.2.2.2.2.2.1), (hb.cell (h.2.2.1)).trans (h.2.2.2.2.2.2.2.2.2.2)⟩
  have HS := Lib.hid hs; clear hs
  go_enter Try.func14, Try.ntmps14
  have hk := Kept.refl w
  have hE := Known.nil w
  go_wp2_with (first
    | (go_at_call 43; refine (CmpW_at (by first | (refine IsWide.of ?_; repeat (first | assumption | exact left_w _ _ | refine right_w ?_ _ | refine jam_w ?_ _ | exact w128_256 (by assumption))) | exact wide_two (by assumption) | exact wide_up (by assumption) | (refine IsWide.val ?_ ?_ ?_ ?_ <;> first | assumption | exact u64_zero | exact limb_u64 _ _ | exact isU64_mk (by decide +kernel))) (by first | (refine IsWide.of ?_; repeat (first | assumption | exact left_w _ _ | refine right_w ?_ _ | refine jam_w ?_ _ | exact w128_256 (by assumption))) | exact wide_two (by assumption) | exact wide_up (by assumption) | (refine IsWide.val ?_ ?_ ?_ ?_ <;> first | assumption | exact u64_zero | exact limb_u64 _ _ | exact isU64_mk (by decide +kernel))) _).mono ?_; rintro e w' ⟨rfl, hb⟩; replace hE : Known _ w' := Known.step hE (by refine Kept.below ?_; repeat (first | exact Kept.refl _ | refine Kept.alloc ?_ _ | refine Kept.drew ?_ | refine Kept.setCell ?_ (by simp) _)) hb; have hR := hE; (simp only [Known, and_true] at hR); replace hk : Kept w.heap.size w w' := Kept.step (by repeat (first | exact hk | refine Kept.alloc ?_ _ | refine Kept.drew ?_ | refine Kept.setCell ?_ (by simp; omega) _)) hb; have hz := hb.size; (try simp only [World.size_alloc] at hz); clear hb))
  go_region_held3 (fun W' => Kept w.heap.size w W' ∧ w.heap.size < W'.heap.size ∧ w.heap.size + 1 < W'.heap.size ∧ W'.cell? ⟨w.heap.size, 0, none⟩ = some (.int .u64 (limb 0 B)) ∧ W'.cell? ⟨w.heap.size, 1, none⟩ = some (.int .u64 (limb 1 B)) ∧ W'.cell? ⟨w.heap.size, 2, none⟩ = some (.int .u64 (limb 2 B)) ∧ W'.cell? ⟨w.heap.size, 3, none⟩ = some (.int .u64 (limb 3 B)) ∧ W'.cell? ⟨w.heap.size + 1, 0, none⟩ = some (.int .u64 (limb 0 A)) ∧ W'.cell? ⟨w.heap.size + 1, 1, none⟩ = some (.int .u64 (limb 1 A)) ∧ W'.cell? ⟨w.heap.size + 1, 2, none⟩ = some (.int .u64 (limb 2 A)) ∧ W'.cell? ⟨w.heap.size + 1, 3, none⟩ = some (.int .u64 (limb 3 A)))
    ((first | (with_reducible exact HS.out _ _ (by assumption) (by assumption)) | assumption | (with_reducible exact HS.out _ _ ((Below.refl _ _).drew) (by assumption)) | exact ⟨by repeat (first | with_reducible assumption | with_reducible exact Kept.refl _ | with_reducible refine Kept.alloc ?_ _ | with_reducible refine Kept.drew ?_ | with_reducible refine Kept.setCell ?_ (by simp; try omega) _), by go_simp, by go_simp, by go_simp, by go_simp, by go_simp, by go_simp, by go_simp, by go_simp, by go_simp, by go_simp⟩))
    (first
      | (go_at_call 43; refine (CmpW_at (by first | (refine IsWide.of ?_; repeat (first | assumption | exact left_w _ _ | refine right_w ?_ _ | refine jam_w ?_ _ | exact w128_256 (by assumption))) | exact wide_two (by assumption) | exact wide_up (by assumption) | (refine IsWide.val ?_ ?_ ?_ ?_ <;> first | assumption | exact u64_zero | exact limb_u64 _ _ | exact isU64_mk (by decide +kernel))) (by first | (refine IsWide.of ?_; repeat (first | assumption | exact left_w _ _ | refine right_w ?_ _ | refine jam_w ?_ _ | exact w128_256 (by assumption))) | exact wide_two (by assumption) | exact wide_up (by assumption) | (refine IsWide.val ?_ ?_ ?_ ?_ <;> first | assumption | exact u64_zero | exact limb_u64 _ _ | exact isU64_mk (by decide +kernel))) _).mono ?_; rintro e w' ⟨rfl, hb⟩)
      | (go_at_call 37; refine (WideRight_at (by first | (refine IsWide.of ?_; repeat (first | assumption | exact left_w _ _ | refine right_w ?_ _ | refine jam_w ?_ _ | exact w128_256 (by assumption))) | exact wide_two (by assumption) | exact wide_up (by assumption) | (refine IsWide.val ?_ ?_ ?_ ?_ <;> first | assumption | exact u64_zero | exact limb_u64 _ _ | exact isU64_mk (by decide +kernel))) _ (by omega) (by omega) _).mono ?_; rintro e w' ⟨rfl, hb⟩)
      | (go_at_call 38; refine (WideJam_at (by first | (refine IsWide.of ?_; repeat (first | assumption | exact left_w _ _ | refine right_w ?_ _ | refine jam_w ?_ _ | exact w128_256 (by assumption))) | exact wide_two (by assumption) | exact wide_up (by assumption) | (refine IsWide.val ?_ ?_ ?_ ?_ <;> first | assumption | exact u64_zero | exact limb_u64 _ _ | exact isU64_mk (by decide +kernel))) _ (by omega) (by omega) _).mono ?_; rintro e w' ⟨rfl, hb⟩)
      | (go_at_call 31; refine (goes03_any _).mono ?_; rintro e w' ⟨rfl, hb⟩))
  all_goals go_wp2
  all_goals go_ret
  all_goals (refine ⟨rfl, ?_⟩; apply kept_of; assumption)

theorem ShiftOrder_walk {A B : Nat} (hA : W256 A) (hB : W256 B) (n : Int) (n0 : -9223372036854775808 ≤ n) (n1 : n ≤ 9223372036854775807) (w : World) :
    Calls Try.prog 14 #[wideV A, wideV B, .int .i64 n] w fun e w' => e = .returned (.bool true) ∧ Below w.heap.size w w' := by
  by_cases h : A ≤ B
  · exact ShiftOrder_le hA hB h n n0 n1 w
  · exact ShiftOrder_gt hA hB (Nat.lt_of_not_le h) n n0 n1 w
end Go.Proofs.Ytbifpmpnfcfkkaa
