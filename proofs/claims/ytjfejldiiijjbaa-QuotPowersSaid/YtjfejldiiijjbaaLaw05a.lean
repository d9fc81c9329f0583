/- The walk of QuotPowers. -/
import Derived.Test.YtjfejldiiijjbaaLaw05
set_option linter.unusedVariables false
set_option linter.unusedSimpArgs false
namespace Go.Proofs.Ytjfejldiiijjbaa
open Go.RowKit

set_option maxRecDepth 100000 in
set_option maxHeartbeats 8000000 in
theorem QuotPowers_lost {A : Nat} {by_ : Int} (hA : W256 A) (b0 : 0 ≤ by_) (b1 : by_ ≤ 255) (h : lostB A (by_ % 128) = true) (w : World) :
    Calls Try.prog 14 #[wideV A, .int .u8 by_] w fun e w' => e = .returned (.bool true) ∧ Below w.heap.size w w' := by
  have hk := Kept.refl w
  have k0 : 0 ≤ by_ % 128 := by omega
  have k1 : by_ % 128 ≤ 127 := by omega
  have e0 := qp_power hA k0 k1
  have hp := Nat.two_pow_pos (by_ % 128).toNat
  have e1 : left128 (val2 1 0) (by_ % 128) = 2 ^ (by_ % 128).toNat := by
    unfold left128
    rw [show val2 1 0 = 1 from rfl, Nat.one_mul, Nat.mod_eq_of_lt (Nat.pow_lt_pow_right (by omega) (by omega))]
  have hP : W128 (2 ^ (by_ % 128).toNat) := ⟨Nat.pow_lt_pow_right (by omega) (by omega)⟩
  generalize 2 ^ (by_ % 128).toNat = P at *
  obtain ⟨e2, e3, e4, e5⟩ := e0
  rw [h] at e5
  have e6 : zeroB (modN A P) = false := e5
  clear e5
  have hP0 : 0 < P := hp
  have E1 := Lib.hid e1; have E2 := Lib.hid e2; have E3 := Lib.hid e3; clear e1 e2 e3 hp
  go_enter Try.func14, Try.ntmps14
  go_wp2
  refine wp_region_g 13 (fun W' => Kept w.heap.size w W' ∧ w.heap.size + 1 ≤ W'.heap.size ∧ Box W' (w.heap.size) #[.int .u64 (limb 0 A), .int .u64 (limb 1 A), .int .u64 (limb 2 A), .int .u64 (limb 3 A)]) (fun W' => Kept w.heap.size w W' ∧ w.heap.size + 1 ≤ W'.heap.size ∧ Box W' (w.heap.size) #[.int .u64 (limb 0 A), .int .u64 (limb 1 A), .int .u64 (limb 2 A), .int .u64 (limb 3 A)]) 1000 (w.heap.size + 1) [.known (wideV A), .known (.agg #[.int .u64 0, .int .u64 1]), .known (.int .i64 (by_ % 128)), .known (bitsV P), .known (.tuple #[wideV (rightN A (by_ % 128)), bitsV (modN A P), .bool true]), .known (.tuple #[wideV (rightN A (by_ % 128)), bitsV (modN A P), .bool true]), .known (wideV (rightN A (by_ % 128))), .known (bitsV (modN A P)), .known (.bool true), .var #[.int .u64 0, .int .u64 0, .int .u64 0, .int .u64 0] 11 [.int .u64 (limb 0 (rightN A (by_ % 128))), .int .u64 (limb 1 (rightN A (by_ % 128))), .int .u64 (limb 2 (rightN A (by_ % 128))), .int .u64 (limb 3 (rightN A (by_ % 128)))], .var #[.int .u64 0, .int .u64 0] 12 [.int .u64 (limb 1 (modN A P)), .int .u64 (limb 0 (modN A P))], .put 9, .put 10] (by kernel_rfl) (by kernel_rfl) (fun W W' h hb => ⟨h.1.step hb, Nat.le_trans (h.2.1) hb.size, Box.call hb (h.2.2)⟩) (fun W W' h hb => ⟨h.1.step hb, Nat.le_trans (h.2.1) hb.size, Box.call hb (h.2.2)⟩) (no_out (of_decide_eq_true (by kernel_rfl))) (.inr (fun W' b i v hb h => ⟨h.1.setCell (p := ⟨b, i, none⟩) (by simp only []; omega) v, (by rw [World.size_setCell]; exact h.2.1), (h.2.2).other (by omega)⟩)) (.inr (fun W' b i v hb h => ⟨h.1.setCell (p := ⟨b, i, none⟩) (by simp only []; omega) v, (by rw [World.size_setCell]; exact h.2.1), (h.2.2).other (by omega)⟩)) (fun _ h => h.2.1) (fun _ h => h.2.1) (⟨(by repeat (first | with_reducible exact hk | with_reducible exact Kept.refl _ | with_reducible refine Kept.alloc ?_ _ | with_reducible refine Kept.drew ?_ | with_reducible refine Kept.setCell ?_ (by simp only [World.size_alloc, World.size_setCell, World.size_drew]; omega) _)), (by (try simp only [World.size_alloc, World.size_setCell, World.size_drew]); omega), (by repeat (first | with_reducible assumption | with_reducible apply Box.set10 | with_reducible apply Box.set20 | with_reducible apply Box.set21 | with_reducible apply Box.set40 | with_reducible apply Box.set41 | with_reducible apply Box.set42 | with_reducible apply Box.set43 | with_reducible apply Box.set50 | with_reducible apply Box.set51 | with_reducible apply Box.set52 | with_reducible apply Box.set53 | with_reducible apply Box.set54 | with_reducible apply Box.drew | (with_reducible apply Box.newAt; (try simp only [World.size_alloc, World.size_setCell, World.size_drew]); done) | with_reducible apply Box.alloc | (with_reducible apply Box.other; case hne => ((try simp only [World.size_alloc, World.size_setCell, World.size_drew]); omega))))⟩) ?_
  clear hk
  intro ρ
  simp only [List.take_succ_cons, List.take_zero, List.drop_succ_cons, List.drop_zero]
  refine ⟨?_, ?_⟩
  · as_aux_lemma =>
    intro y_ hS_ hD
    have hS := hS_ (by rfl)
    have Q := (hS.2.2).cell
    have q0 := Q 0 _ rfl
    have q1 := Q 1 _ rfl
    have q2 := Q 2 _ rfl
    have q3 := Q 3 _ rfl
    clear Q hS hS_ hD
    refine s_gen (V := wideV A) [.pointer (some ⟨w.heap.size, 0, none⟩)] (by kernel_rfl) (by kernel_rfl) (by kernel_rfl) ?_
    intro r_ hr_
    have o0_ : r_ (.tmp 2) = .pointer (some ⟨w.heap.size, 0, none⟩) := op_at hr_ 0 (by kernel_rfl) (by kernel_rfl)
    clear hr_
    go_simp; first | done | with_reducible rfl
  simp only [Act.put, planVG, List.setIfInBounds_toArray, List.set_cons_zero, List.set_cons_succ, List.getElem?_cons_zero, List.getElem?_cons_succ]
  refine ⟨?_, ?_⟩
  · as_aux_lemma =>
    intro y_ hS_ hD
    clear hS_ hD
    refine s_gen (V := .agg #[.int .u64 0, .int .u64 1]) [.int .u64 1] (by kernel_rfl) (by kernel_rfl) (by kernel_rfl) ?_
    intro r_ hr_
    have o0_ : r_ (.const (.int .u64 1)) = .int .u64 1 := op_at hr_ 0 (by kernel_rfl) (by kernel_rfl)
    clear hr_
    go_simp; first | done | with_reducible rfl
  simp only [Act.put, planVG, List.setIfInBounds_toArray, List.set_cons_zero, List.set_cons_succ, List.getElem?_cons_zero, List.getElem?_cons_succ]
  refine ⟨?_, ?_⟩
  · as_aux_lemma =>
    intro y_ hS_ hD
    clear hS_ hD
    refine s_gen (V := .int .i64 (by_ % 128)) [.int .i64 (by_ % 128)] (by kernel_rfl) (by kernel_rfl) (by kernel_rfl) ?_
    intro r_ hr_
    have o0_ : r_ (.tmp 5) = .int .i64 (by_ % 128) := op_at hr_ 0 (by kernel_rfl) (by kernel_rfl)
    clear hr_
    go_simp; first | done | with_reducible rfl
  simp only [Act.put, planVG, List.setIfInBounds_toArray, List.set_cons_zero, List.set_cons_succ, List.getElem?_cons_zero, List.getElem?_cons_succ]
  refine ⟨?_, ?_⟩
  · as_aux_lemma =>
    intro y_ hS_ hD
    try clear hS
    clear hS_ hD
    refine s_gcall (V := bitsV P) [.func (.func 45) #[] #[], .agg #[.int .u64 0, .int .u64 1], .int .i64 (by_ % 128)] ?_ ?_ (by kernel_rfl) (by kernel_rfl) (by kernel_rfl) ?_ ?_
    rotate_left 2
    · intro r_ hr_
      have o0_ : r_ (.func 45) = .func (.func 45) #[] #[] := op_at hr_ 0 (by kernel_rfl) (by kernel_rfl)
      have o1_ : r_ (.tmp 16) = .agg #[.int .u64 0, .int .u64 1] := op_at hr_ 1 (by kernel_rfl) (by kernel_rfl)
      have o2_ : r_ (.tmp 17) = .int .i64 (by_ % 128) := op_at hr_ 2 (by kernel_rfl) (by kernel_rfl)
      clear hr_
      go_simp; first | done | with_reducible rfl | (constructor <;> with_reducible rfl)
    · refine calls_to (V := bitsV P) (Left_at (IsBits.val u64_zero (isU64_mk (by decide +kernel))) (by_ % 128) (by omega) (by omega) _) (by rw [E1.out])
  simp only [Act.put, planVG, List.setIfInBounds_toArray, List.set_cons_zero, List.set_cons_succ, List.getElem?_cons_zero, List.getElem?_cons_succ]
  refine ⟨?_, ?_⟩
  · as_aux_lemma =>
    intro y_ hS_ hD
    try clear hS
    clear hS_ hD
    refine s_gcall (V := .tuple #[wideV (rightN A (by_ % 128)), bitsV (modN A P), .bool true]) [.func (.func 34) #[] #[], wideV A, bitsV P] ?_ ?_ (by kernel_rfl) (by kernel_rfl) (by kernel_rfl) ?_ ?_
    rotate_left 2
    · intro r_ hr_
      have o0_ : r_ (.func 34) = .func (.func 34) #[] #[] := op_at hr_ 0 (by kernel_rfl) (by kernel_rfl)
      have o1_ : r_ (.tmp 15) = wideV A := op_at hr_ 1 (by kernel_rfl) (by kernel_rfl)
      have o2_ : r_ (.tmp 18) = bitsV P := op_at hr_ 2 (by kernel_rfl) (by kernel_rfl)
      clear hr_
      go_simp; first | done | with_reducible rfl | (constructor <;> with_reducible rfl)
    · refine calls_to (V := .tuple #[wideV (rightN A (by_ % 128)), bitsV (modN A P), .bool true]) (Div_at (IsWide.of hA) (IsBits.of hP) hP0 _) (by rw [E2.out])
  simp only [Act.put, planVG, List.setIfInBounds_toArray, List.set_cons_zero, List.set_cons_succ, List.getElem?_cons_zero, List.getElem?_cons_succ]
  refine ⟨?_, ?_⟩
  · as_aux_lemma =>
    intro y_ hS_ hD
    clear hS_ hD
    refine s_gen (V := .tuple #[wideV (rightN A (by_ % 128)), bitsV (modN A P), .bool true]) [.tuple #[wideV (rightN A (by_ % 128)), bitsV (modN A P), .bool true]] (by kernel_rfl) (by kernel_rfl) (by kernel_rfl) ?_
    intro r_ hr_
    have o0_ : r_ (.tmp 19) = .tuple #[wideV (rightN A (by_ % 128)), bitsV (modN A P), .bool true] := op_at hr_ 0 (by kernel_rfl) (by kernel_rfl)
    clear hr_
    go_simp; first | done | with_reducible rfl
  simp only [Act.put, planVG, List.setIfInBounds_toArray, List.set_cons_zero, List.set_cons_succ, List.getElem?_cons_zero, List.getElem?_cons_succ]
  refine ⟨?_, ?_⟩
  · as_aux_lemma =>
    intro y_ hS_ hD
    clear hS_ hD
    refine s_gen (V := wideV (rightN A (by_ % 128))) [.tuple #[wideV (rightN A (by_ % 128)), bitsV (modN A P), .bool true]] (by kernel_rfl) (by kernel_rfl) (by kernel_rfl) ?_
    intro r_ hr_
    have o0_ : r_ (.tmp 14) = .tuple #[wideV (rightN A (by_ % 128)), bitsV (modN A P), .bool true] := op_at hr_ 0 (by kernel_rfl) (by kernel_rfl)
    clear hr_
    go_simp; first | done | with_reducible rfl
  simp only [Act.put, planVG, List.setIfInBounds_toArray, List.set_cons_zero, List.set_cons_succ, List.getElem?_cons_zero, List.getElem?_cons_succ]
  refine ⟨?_, ?_⟩
  · as_aux_lemma =>
    intro y_ hS_ hD
    clear hS_ hD
    refine s_gen (V := bitsV (modN A P)) [.tuple #[wideV (rightN A (by_ % 128)), bitsV (modN A P), .bool true]] (by kernel_rfl) (by kernel_rfl) (by kernel_rfl) ?_
    intro r_ hr_
    have o0_ : r_ (.tmp 14) = .tuple #[wideV (rightN A (by_ % 128)), bitsV (modN A P), .bool true] := op_at hr_ 0 (by kernel_rfl) (by kernel_rfl)
    clear hr_
    go_simp; first | done | with_reducible rfl
  simp only [Act.put, planVG, List.setIfInBounds_toArray, List.set_cons_zero, List.set_cons_succ, List.getElem?_cons_zero, List.getElem?_cons_succ]
  refine ⟨?_, ?_⟩
  · as_aux_lemma =>
    intro y_ hS_ hD
    clear hS_ hD
    refine s_gen (V := .bool true) [.tuple #[wideV (rightN A (by_ % 128)), bitsV (modN A P), .bool true]] (by kernel_rfl) (by kernel_rfl) (by kernel_rfl) ?_
    intro r_ hr_
    have o0_ : r_ (.tmp 14) = .tuple #[wideV (rightN A (by_ % 128)), bitsV (modN A P), .bool true] := op_at hr_ 0 (by kernel_rfl) (by kernel_rfl)
    clear hr_
    go_simp; first | done | with_reducible rfl
  simp only [Act.put, planVG, List.setIfInBounds_toArray, List.set_cons_zero, List.set_cons_succ, List.getElem?_cons_zero, List.getElem?_cons_succ]
  refine ⟨?_, ?_⟩
  · as_aux_lemma =>
    intro y_ hS_ hD
    clear hS_ hD
    refine s_alloc (by rfl) (by rfl) ?_
    simp only [allocTy]
    go_simp; first | done | with_reducible rfl | rfl
  simp only [Act.put, planVG, List.setIfInBounds_toArray, List.set_cons_zero, List.set_cons_succ, List.getElem?_cons_zero, List.getElem?_cons_succ]
  refine ⟨?_, ?_⟩
  · as_aux_lemma =>
    intro y_ hS_ hD
    clear hS_ hD
    refine s_alloc (by rfl) (by rfl) ?_
    simp only [allocTy]
    go_simp; first | done | with_reducible rfl | rfl
  simp only [Act.put, planVG, List.setIfInBounds_toArray, List.set_cons_zero, List.set_cons_succ, List.getElem?_cons_zero, List.getElem?_cons_succ]
  refine ⟨?_, ?_⟩
  · as_aux_lemma =>
    intro y_ hS_ hD
    have hS := hS_ (by rfl)
    clear hS hS_ hD
    refine s_gput (j := 9) (Z := #[.int .u64 0, .int .u64 0, .int .u64 0, .int .u64 0]) (V := [.int .u64 (limb 0 (rightN A (by_ % 128))), .int .u64 (limb 1 (rightN A (by_ % 128))), .int .u64 (limb 2 (rightN A (by_ % 128))), .int .u64 (limb 3 (rightN A (by_ % 128)))]) [ρ 9, wideV (rightN A (by_ % 128))] (by kernel_rfl) (by kernel_rfl) (by kernel_rfl) (by kernel_rfl) ?_
    intro r_ b hr_ hb hB F
    have o0_ : r_ (.tmp 6) = ρ 9 := op_at hr_ 0 (by kernel_rfl) (by kernel_rfl)
    have o1_ : r_ (.tmp 20) = wideV (rightN A (by_ % 128)) := op_at hr_ 1 (by kernel_rfl) (by kernel_rfl)
    clear hr_
    rw [hb] at o0_
    have Q := F.cell
    have q0 := Q 0 _ rfl
    have q1 := Q 1 _ rfl
    have q2 := Q 2 _ rfl
    have q3 := Q 3 _ rfl
    have Qf := F.free
    have Ql := F.lt
    clear Q F
    simp only [putCells]
    go_simp; first | done | with_reducible rfl | rfl
  simp only [Act.put, planVG, List.setIfInBounds_toArray, List.set_cons_zero, List.set_cons_succ, List.getElem?_cons_zero, List.getElem?_cons_succ]
  refine ⟨?_, ?_⟩
  · as_aux_lemma =>
    intro y_ hS_ hD
    have hS := hS_ (by rfl)
    clear hS hS_ hD
    refine s_gput (j := 10) (Z := #[.int .u64 0, .int .u64 0]) (V := [.int .u64 (limb 1 (modN A P)), .int .u64 (limb 0 (modN A P))]) [ρ 10, bitsV (modN A P)] (by kernel_rfl) (by kernel_rfl) (by kernel_rfl) (by kernel_rfl) ?_
    intro r_ b hr_ hb hB F
    have o0_ : r_ (.tmp 7) = ρ 10 := op_at hr_ 0 (by kernel_rfl) (by kernel_rfl)
    have o1_ : r_ (.tmp 21) = bitsV (modN A P) := op_at hr_ 1 (by kernel_rfl) (by kernel_rfl)
    clear hr_
    rw [hb] at o0_
    have Q := F.cell
    have q0 := Q 0 _ rfl
    have q1 := Q 1 _ rfl
    have Qf := F.free
    have Ql := F.lt
    clear Q F
    simp only [putCells]
    go_simp; first | done | with_reducible rfl | rfl
  simp only [Act.put, planVG, List.setIfInBounds_toArray, List.set_cons_zero, List.set_cons_succ, List.getElem?_cons_zero, List.getElem?_cons_succ]
  as_aux_lemma =>
    intro w1 hS hF hD_
    change wpList _ _ _ _ _ _
    replace hS := sg_no (by decide) hS
    obtain ⟨hk, hZ1, X1⟩ := hS
    obtain ⟨v2_9, e_v2_9, hv2_9, Bv2_9⟩ : ∃ b, ρ 9 = .pointer (some ⟨b, 0, none⟩) ∧ w.heap.size + 1 ≤ b ∧ Box w1 b #[.int .u64 (limb 0 (rightN A (by_ % 128))), .int .u64 (limb 1 (rightN A (by_ % 128))), .int .u64 (limb 2 (rightN A (by_ % 128))), .int .u64 (limb 3 (rightN A (by_ % 128)))] := by
      obtain ⟨b, h1, h2, h3⟩ := hF 9 (by decide)
      exact ⟨b, h1, h2, h3.lt, h3.cell, h3.free⟩
    obtain ⟨v2_10, e_v2_10, hv2_10, Bv2_10⟩ : ∃ b, ρ 10 = .pointer (some ⟨b, 0, none⟩) ∧ w.heap.size + 1 ≤ b ∧ Box w1 b #[.int .u64 (limb 1 (modN A P)), .int .u64 (limb 0 (modN A P))] := by
      obtain ⟨b, h1, h2, h3⟩ := hF 10 (by decide)
      exact ⟨b, h1, h2, h3.lt, h3.cell, h3.free⟩
    have nv2_9_v2_10 : ¬ v2_9 = v2_10 := fun h => hD_ 9 10 (by decide) (by decide) (by decide) (by rfl) (by rfl) (by rw [e_v2_9, e_v2_10, h])
    have nv2_10_v2_9 : ¬ v2_10 = v2_9 := fun h => nv2_9_v2_10 h.symm
    clear hF hD_
    simp only [e_v2_9]
    clear e_v2_9
    simp only [e_v2_10]
    clear e_v2_10
    clear ρ
    have hz_w1 := hk.size
    have X1l := X1.lt
    have X1f := X1.free
    have X1l1 : w.heap.size < w1.heap.size + 1 := by omega
    have X1l2 : w.heap.size < w1.heap.size + 1 + 1 := by omega
    have X1l3 : w.heap.size < w1.heap.size + 1 + 1 + 1 := by omega
    have X10 := X1.cell 0 _ rfl
    have X11 := X1.cell 1 _ rfl
    have X12 := X1.cell 2 _ rfl
    have X13 := X1.cell 3 _ rfl
    have Bv2_9l := Bv2_9.lt
    have Bv2_9f := Bv2_9.free
    have Bv2_9l1 : v2_9 < w1.heap.size + 1 := by omega
    have Bv2_9l2 : v2_9 < w1.heap.size + 1 + 1 := by omega
    have Bv2_9l3 : v2_9 < w1.heap.size + 1 + 1 + 1 := by omega
    have Bv2_90 := Bv2_9.cell 0 _ rfl
    have Bv2_91 := Bv2_9.cell 1 _ rfl
    have Bv2_92 := Bv2_9.cell 2 _ rfl
    have Bv2_93 := Bv2_9.cell 3 _ rfl
    have Bv2_10l := Bv2_10.lt
    have Bv2_10f := Bv2_10.free
    have Bv2_10l1 : v2_10 < w1.heap.size + 1 := by omega
    have Bv2_10l2 : v2_10 < w1.heap.size + 1 + 1 := by omega
    have Bv2_10l3 : v2_10 < w1.heap.size + 1 + 1 + 1 := by omega
    have Bv2_100 := Bv2_10.cell 0 _ rfl
    have Bv2_101 := Bv2_10.cell 1 _ rfl
    go_wp2
    refine wp_region_g 10 (fun W' => Kept w.heap.size w W' ∧ w1.heap.size ≤ W'.heap.size ∧ Box W' (w.heap.size) #[.int .u64 (limb 0 A), .int .u64 (limb 1 A), .int .u64 (limb 2 A), .int .u64 (limb 3 A)] ∧ Box W' (v2_9) #[.int .u64 (limb 0 (rightN A (by_ % 128))), .int .u64 (limb 1 (rightN A (by_ % 128))), .int .u64 (limb 2 (rightN A (by_ % 128))), .int .u64 (limb 3 (rightN A (by_ % 128)))] ∧ Box W' (v2_10) #[.int .u64 (limb 1 (modN A P)), .int .u64 (limb 0 (modN A P))]) (fun W' => Kept w.heap.size w W' ∧ w1.heap.size ≤ W'.heap.size ∧ Box W' (w.heap.size) #[.int .u64 (limb 0 A), .int .u64 (limb 1 A), .int .u64 (limb 2 A), .int .u64 (limb 3 A)] ∧ Box W' (v2_9) #[.int .u64 (limb 0 (rightN A (by_ % 128))), .int .u64 (limb 1 (rightN A (by_ % 128))), .int .u64 (limb 2 (rightN A (by_ % 128))), .int .u64 (limb 3 (rightN A (by_ % 128)))] ∧ Box W' (v2_10) #[.int .u64 (limb 1 (modN A P)), .int .u64 (limb 0 (modN A P))]) 1000 (w1.heap.size) [.known (wideV A), .known (wideV (rightN A (by_ % 128))), .known (.int .i64 (by_ % 128)), .known (wideV (left256 (rightN A (by_ % 128)) (by_ % 128))), .known (.tuple #[wideV (modN A P), .bool (ltB A (left256 (rightN A (by_ % 128)) (by_ % 128)))]), .known (.tuple #[wideV (modN A P), .bool (ltB A (left256 (rightN A (by_ % 128)) (by_ % 128)))]), .known (wideV (modN A P)), .known (.bool (ltB A (left256 (rightN A (by_ % 128)) (by_ % 128)))), .var #[.int .u64 0, .int .u64 0, .int .u64 0, .int .u64 0] 9 [.int .u64 (limb 0 (modN A P)), .int .u64 (limb 1 (modN A P)), .int .u64 (limb 2 (modN A P)), .int .u64 (limb 3 (modN A P))], .put 8] (by kernel_rfl) (by kernel_rfl) (fun W W' h hb => ⟨h.1.step hb, Nat.le_trans (h.2.1) hb.size, Box.call hb (h.2.2.1), Box.call hb (h.2.2.2.1), Box.call hb (h.2.2.2.2)⟩) (fun W W' h hb => ⟨h.1.step hb, Nat.le_trans (h.2.1) hb.size, Box.call hb (h.2.2.1), Box.call hb (h.2.2.2.1), Box.call hb (h.2.2.2.2)⟩) (no_out (of_decide_eq_true (by kernel_rfl))) (.inr (fun W' b i v hb h => ⟨h.1.setCell (p := ⟨b, i, none⟩) (by simp only []; omega) v, (by rw [World.size_setCell]; exact h.2.1), (h.2.2.1).other (by omega), (h.2.2.2.1).other (by omega), (h.2.2.2.2).other (by omega)⟩)) (.inr (fun W' b i v hb h => ⟨h.1.setCell (p := ⟨b, i, none⟩) (by simp only []; omega) v, (by rw [World.size_setCell]; exact h.2.1), (h.2.2.1).other (by omega), (h.2.2.2.1).other (by omega), (h.2.2.2.2).other (by omega)⟩)) (fun _ h => h.2.1) (fun _ h => h.2.1) (⟨(by repeat (first | with_reducible exact hk | with_reducible exact Kept.refl _ | with_reducible refine Kept.alloc ?_ _ | with_reducible refine Kept.drew ?_ | with_reducible refine Kept.setCell ?_ (by simp only [World.size_alloc, World.size_setCell, World.size_drew]; omega) _)), (by (try simp only [World.size_alloc, World.size_setCell, World.size_drew]); omega), (by repeat (first | with_reducible assumption | with_reducible apply Box.set10 | with_reducible apply Box.set20 | with_reducible apply Box.set21 | with_reducible apply Box.set40 | with_reducible apply Box.set41 | with_reducible apply Box.set42 | with_reducible apply Box.set43 | with_reducible apply Box.set50 | with_reducible apply Box.set51 | with_reducible apply Box.set52 | with_reducible apply Box.set53 | with_reducible apply Box.set54 | with_reducible apply Box.drew | (with_reducible apply Box.newAt; (try simp only [World.size_alloc, World.size_setCell, World.size_drew]); done) | with_reducible apply Box.alloc | (with_reducible apply Box.other; case hne => ((try simp only [World.size_alloc, World.size_setCell, World.size_drew]); omega)))), (by repeat (first | with_reducible assumption | with_reducible apply Box.set10 | with_reducible apply Box.set20 | with_reducible apply Box.set21 | with_reducible apply Box.set40 | with_reducible apply Box.set41 | with_reducible apply Box.set42 | with_reducible apply Box.set43 | with_reducible apply Box.set50 | with_reducible apply Box.set51 | with_reducible apply Box.set52 | with_reducible apply Box.set53 | with_reducible apply Box.set54 | with_reducible apply Box.drew | (with_reducible apply Box.newAt; (try simp only [World.size_alloc, World.size_setCell, World.size_drew]); done) | with_reducible apply Box.alloc | (with_reducible apply Box.other; case hne => ((try simp only [World.size_alloc, World.size_setCell, World.size_drew]); omega)))), (by repeat (first | with_reducible assumption | with_reducible apply Box.set10 | with_reducible apply Box.set20 | with_reducible apply Box.set21 | with_reducible apply Box.set40 | with_reducible apply Box.set41 | with_reducible apply Box.set42 | with_reducible apply Box.set43 | with_reducible apply Box.set50 | with_reducible apply Box.set51 | with_reducible apply Box.set52 | with_reducible apply Box.set53 | with_reducible apply Box.set54 | with_reducible apply Box.drew | (with_reducible apply Box.newAt; (try simp only [World.size_alloc, World.size_setCell, World.size_drew]); done) | with_reducible apply Box.alloc | (with_reducible apply Box.other; case hne => ((try simp only [World.size_alloc, World.size_setCell, World.size_drew]); omega))))⟩) ?_
    clear hk
    clear X1 X1l1 X1l2 X1l3 X1f X10 X11 X12 X13
    clear Bv2_9 Bv2_9l1 Bv2_9l2 Bv2_9l3 Bv2_9f Bv2_90 Bv2_91 Bv2_92 Bv2_93
    clear Bv2_10 Bv2_10l1 Bv2_10l2 Bv2_10l3 Bv2_10f Bv2_100 Bv2_101
    intro ρ
    simp only [List.take_succ_cons, List.take_zero, List.drop_succ_cons, List.drop_zero]
    refine ⟨?_, ?_⟩
    · as_aux_lemma =>
      intro y_ hS_ hD
      have hS := hS_ (by rfl)
      have Q := (hS.2.2.1).cell
      have q0 := Q 0 _ rfl
      have q1 := Q 1 _ rfl
      have q2 := Q 2 _ rfl
      have q3 := Q 3 _ rfl
      clear Q hS hS_ hD
      refine s_gen (V := wideV A) [.pointer (some ⟨w.heap.size, 0, none⟩)] (by kernel_rfl) (by kernel_rfl) (by kernel_rfl) ?_
      intro r_ hr_
      have o0_ : r_ (.tmp 2) = .pointer (some ⟨w.heap.size, 0, none⟩) := op_at hr_ 0 (by kernel_rfl) (by kernel_rfl)
      clear hr_
      go_simp; first | done | with_reducible rfl
    simp only [Act.put, planVG, List.setIfInBounds_toArray, List.set_cons_zero, List.set_cons_succ, List.getElem?_cons_zero, List.getElem?_cons_succ]
    refine ⟨?_, ?_⟩
    · as_aux_lemma =>
      intro y_ hS_ hD
      have hS := hS_ (by rfl)
      have Q := (hS.2.2.2.1).cell
      have q0 := Q 0 _ rfl
      have q1 := Q 1 _ rfl
      have q2 := Q 2 _ rfl
      have q3 := Q 3 _ rfl
      clear Q hS hS_ hD
      refine s_gen (V := wideV (rightN A (by_ % 128))) [.pointer (some ⟨v2_9, 0, none⟩)] (by kernel_rfl) (by kernel_rfl) (by kernel_rfl) ?_
      intro r_ hr_
      have o0_ : r_ (.tmp 6) = .pointer (some ⟨v2_9, 0, none⟩) := op_at hr_ 0 (by kernel_rfl) (by kernel_rfl)
      clear hr_
      go_simp; first | done | with_reducible rfl
    simp only [Act.put, planVG, List.setIfInBounds_toArray, List.set_cons_zero, List.set_cons_succ, List.getElem?_cons_zero, List.getElem?_cons_succ]
    refine ⟨?_, ?_⟩
    · as_aux_lemma =>
      intro y_ hS_ hD
      clear hS_ hD
      refine s_gen (V := .int .i64 (by_ % 128)) [.int .i64 (by_ % 128)] (by kernel_rfl) (by kernel_rfl) (by kernel_rfl) ?_
      intro r_ hr_
      have o0_ : r_ (.tmp 5) = .int .i64 (by_ % 128) := op_at hr_ 0 (by kernel_rfl) (by kernel_rfl)
      clear hr_
      go_simp; first | done | with_reducible rfl
    simp only [Act.put, planVG, List.setIfInBounds_toArray, List.set_cons_zero, List.set_cons_succ, List.getElem?_cons_zero, List.getElem?_cons_succ]
    refine ⟨?_, ?_⟩
    · as_aux_lemma =>
      intro y_ hS_ hD
      try clear hS
      clear hS_ hD
      refine s_gcall (V := wideV (left256 (rightN A (by_ % 128)) (by_ % 128))) [.func (.func 43) #[] #[], wideV (rightN A (by_ % 128)), .int .i64 (by_ % 128)] ?_ ?_ (by kernel_rfl) (by kernel_rfl) (by kernel_rfl) ?_ ?_
      rotate_left 2
      · intro r_ hr_
        have o0_ : r_ (.func 43) = .func (.func 43) #[] #[] := op_at hr_ 0 (by kernel_rfl) (by kernel_rfl)
        have o1_ : r_ (.tmp 25) = wideV (rightN A (by_ % 128)) := op_at hr_ 1 (by kernel_rfl) (by kernel_rfl)
        have o2_ : r_ (.tmp 26) = .int .i64 (by_ % 128) := op_at hr_ 2 (by kernel_rfl) (by kernel_rfl)
        clear hr_
        go_simp; first | done | with_reducible rfl | (constructor <;> with_reducible rfl)
      · refine WideLeft_at (IsWide.of (right_w hA _)) (by_ % 128) (by omega) (by omega) _
    simp only [Act.put, planVG, List.setIfInBounds_toArray, List.set_cons_zero, List.set_cons_succ, List.getElem?_cons_zero, List.getElem?_cons_succ]
    refine ⟨?_, ?_⟩
    · as_aux_lemma =>
      intro y_ hS_ hD
      try clear hS
      clear hS_ hD
      refine s_gcall (V := .tuple #[wideV (modN A P), .bool (ltB A (left256 (rightN A (by_ % 128)) (by_ % 128)))]) [.func (.func 46) #[] #[], wideV A, wideV (left256 (rightN A (by_ % 128)) (by_ % 128))] ?_ ?_ (by kernel_rfl) (by kernel_rfl) (by kernel_rfl) ?_ ?_
      rotate_left 2
      · intro r_ hr_
        have o0_ : r_ (.func 46) = .func (.func 46) #[] #[] := op_at hr_ 0 (by kernel_rfl) (by kernel_rfl)
        have o1_ : r_ (.tmp 24) = wideV A := op_at hr_ 1 (by kernel_rfl) (by kernel_rfl)
        have o2_ : r_ (.tmp 27) = wideV (left256 (rightN A (by_ % 128)) (by_ % 128)) := op_at hr_ 2 (by kernel_rfl) (by kernel_rfl)
        clear hr_
        go_simp; first | done | with_reducible rfl | (constructor <;> with_reducible rfl)
      · refine calls_to (V := .tuple #[wideV (modN A P), .bool (ltB A (left256 (rightN A (by_ % 128)) (by_ % 128)))]) (SubW_at (IsWide.of hA) (IsWide.of (left_w _ _)) _) (by rw [E3.out])
    simp only [Act.put, planVG, List.setIfInBounds_toArray, List.set_cons_zero, List.set_cons_succ, List.getElem?_cons_zero, List.getElem?_cons_succ]
    refine ⟨?_, ?_⟩
    · as_aux_lemma =>
      intro y_ hS_ hD
      clear hS_ hD
      refine s_gen (V := .tuple #[wideV (modN A P), .bool (ltB A (left256 (rightN A (by_ % 128)) (by_ % 128)))]) [.tuple #[wideV (modN A P), .bool (ltB A (left256 (rightN A (by_ % 128)) (by_ % 128)))]] (by kernel_rfl) (by kernel_rfl) (by kernel_rfl) ?_
      intro r_ hr_
      have o0_ : r_ (.tmp 28) = .tuple #[wideV (modN A P), .bool (ltB A (left256 (rightN A (by_ % 128)) (by_ % 128)))] := op_at hr_ 0 (by kernel_rfl) (by kernel_rfl)
      clear hr_
      go_simp; first | done | with_reducible rfl
    simp only [Act.put, planVG, List.setIfInBounds_toArray, List.set_cons_zero, List.set_cons_succ, List.getElem?_cons_zero, List.getElem?_cons_succ]
    refine ⟨?_, ?_⟩
    · as_aux_lemma =>
      intro y_ hS_ hD
      clear hS_ hD
      refine s_gen (V := wideV (modN A P)) [.tuple #[wideV (modN A P), .bool (ltB A (left256 (rightN A (by_ % 128)) (by_ % 128)))]] (by kernel_rfl) (by kernel_rfl) (by kernel_rfl) ?_
      intro r_ hr_
      have o0_ : r_ (.tmp 23) = .tuple #[wideV (modN A P), .bool (ltB A (left256 (rightN A (by_ % 128)) (by_ % 128)))] := op_at hr_ 0 (by kernel_rfl) (by kernel_rfl)
      clear hr_
      go_simp; first | done | with_reducible rfl
    simp only [Act.put, planVG, List.setIfInBounds_toArray, List.set_cons_zero, List.set_cons_succ, List.getElem?_cons_zero, List.getElem?_cons_succ]
    refine ⟨?_, ?_⟩
    · as_aux_lemma =>
      intro y_ hS_ hD
      clear hS_ hD
      refine s_gen (V := .bool (ltB A (left256 (rightN A (by_ % 128)) (by_ % 128)))) [.tuple #[wideV (modN A P), .bool (ltB A (left256 (rightN A (by_ % 128)) (by_ % 128)))]] (by kernel_rfl) (by kernel_rfl) (by kernel_rfl) ?_
      intro r_ hr_
      have o0_ : r_ (.tmp 23) = .tuple #[wideV (modN A P), .bool (ltB A (left256 (rightN A (by_ % 128)) (by_ % 128)))] := op_at hr_ 0 (by kernel_rfl) (by kernel_rfl)
      clear hr_
      go_simp; first | done | with_reducible rfl
    simp only [Act.put, planVG, List.setIfInBounds_toArray, List.set_cons_zero, List.set_cons_succ, List.getElem?_cons_zero, List.getElem?_cons_succ]
    refine ⟨?_, ?_⟩
    · as_aux_lemma =>
      intro y_ hS_ hD
      clear hS_ hD
      refine s_alloc (by rfl) (by rfl) ?_
      simp only [allocTy]
      go_simp; first | done | with_reducible rfl | rfl
    simp only [Act.put, planVG, List.setIfInBounds_toArray, List.set_cons_zero, List.set_cons_succ, List.getElem?_cons_zero, List.getElem?_cons_succ]
    refine ⟨?_, ?_⟩
    · as_aux_lemma =>
      intro y_ hS_ hD
      have hS := hS_ (by rfl)
      clear hS hS_ hD
      refine s_gput (j := 8) (Z := #[.int .u64 0, .int .u64 0, .int .u64 0, .int .u64 0]) (V := [.int .u64 (limb 0 (modN A P)), .int .u64 (limb 1 (modN A P)), .int .u64 (limb 2 (modN A P)), .int .u64 (limb 3 (modN A P))]) [ρ 8, wideV (modN A P)] (by kernel_rfl) (by kernel_rfl) (by kernel_rfl) (by kernel_rfl) ?_
      intro r_ b hr_ hb hB F
      have o0_ : r_ (.tmp 9) = ρ 8 := op_at hr_ 0 (by kernel_rfl) (by kernel_rfl)
      have o1_ : r_ (.tmp 29) = wideV (modN A P) := op_at hr_ 1 (by kernel_rfl) (by kernel_rfl)
      clear hr_
      rw [hb] at o0_
      have Q := F.cell
      have q0 := Q 0 _ rfl
      have q1 := Q 1 _ rfl
      have q2 := Q 2 _ rfl
      have q3 := Q 3 _ rfl
      have Qf := F.free
      have Ql := F.lt
      clear Q F
      simp only [putCells]
      go_simp; first | done | with_reducible rfl | rfl
    simp only [Act.put, planVG, List.setIfInBounds_toArray, List.set_cons_zero, List.set_cons_succ, List.getElem?_cons_zero, List.getElem?_cons_succ]
    as_aux_lemma =>
      intro w2 hS hF hD_
      change wpList _ _ _ _ _ _
      replace hS := sg_no (by decide) hS
      obtain ⟨hk, hZ2, X1, Bv2_9, Bv2_10⟩ := hS
      obtain ⟨v3_8, e_v3_8, hv3_8, Bv3_8⟩ : ∃ b, ρ 8 = .pointer (some ⟨b, 0, none⟩) ∧ w1.heap.size ≤ b ∧ Box w2 b #[.int .u64 (limb 0 (modN A P)), .int .u64 (limb 1 (modN A P)), .int .u64 (limb 2 (modN A P)), .int .u64 (limb 3 (modN A P))] := by
        obtain ⟨b, h1, h2, h3⟩ := hF 8 (by decide)
        exact ⟨b, h1, h2, h3.lt, h3.cell, h3.free⟩
      clear hF hD_
      simp only [e_v3_8]
      clear e_v3_8
      clear ρ
      have hz_w2 := hk.size
      have X1l := X1.lt
      have X1f := X1.free
      have X1l1 : w.heap.size < w2.heap.size + 1 := by omega
      have X1l2 : w.heap.size < w2.heap.size + 1 + 1 := by omega
      have X1l3 : w.heap.size < w2.heap.size + 1 + 1 + 1 := by omega
      have X10 := X1.cell 0 _ rfl
      have X11 := X1.cell 1 _ rfl
      have X12 := X1.cell 2 _ rfl
      have X13 := X1.cell 3 _ rfl
      have Bv2_9l := Bv2_9.lt
      have Bv2_9f := Bv2_9.free
      have Bv2_9l1 : v2_9 < w2.heap.size + 1 := by omega
      have Bv2_9l2 : v2_9 < w2.heap.size + 1 + 1 := by omega
      have Bv2_9l3 : v2_9 < w2.heap.size + 1 + 1 + 1 := by omega
      have Bv2_90 := Bv2_9.cell 0 _ rfl
      have Bv2_91 := Bv2_9.cell 1 _ rfl
      have Bv2_92 := Bv2_9.cell 2 _ rfl
      have Bv2_93 := Bv2_9.cell 3 _ rfl
      have Bv2_10l := Bv2_10.lt
      have Bv2_10f := Bv2_10.free
      have Bv2_10l1 : v2_10 < w2.heap.size + 1 := by omega
      have Bv2_10l2 : v2_10 < w2.heap.size + 1 + 1 := by omega
      have Bv2_10l3 : v2_10 < w2.heap.size + 1 + 1 + 1 := by omega
      have Bv2_100 := Bv2_10.cell 0 _ rfl
      have Bv2_101 := Bv2_10.cell 1 _ rfl
      have Bv3_8l := Bv3_8.lt
      have Bv3_8f := Bv3_8.free
      have Bv3_8l1 : v3_8 < w2.heap.size + 1 := by omega
      have Bv3_8l2 : v3_8 < w2.heap.size + 1 + 1 := by omega
      have Bv3_8l3 : v3_8 < w2.heap.size + 1 + 1 + 1 := by omega
      have Bv3_80 := Bv3_8.cell 0 _ rfl
      have Bv3_81 := Bv3_8.cell 1 _ rfl
      have Bv3_82 := Bv3_8.cell 2 _ rfl
      have Bv3_83 := Bv3_8.cell 3 _ rfl
      go_wp2
      refine wp_region_g 30 (fun W' => Kept w.heap.size w W' ∧ w2.heap.size ≤ W'.heap.size ∧ Box W' (w.heap.size) #[.int .u64 (limb 0 A), .int .u64 (limb 1 A), .int .u64 (limb 2 A), .int .u64 (limb 3 A)] ∧ Box W' (v2_9) #[.int .u64 (limb 0 (rightN A (by_ % 128))), .int .u64 (limb 1 (rightN A (by_ % 128))), .int .u64 (limb 2 (rightN A (by_ % 128))), .int .u64 (limb 3 (rightN A (by_ % 128)))] ∧ Box W' (v2_10) #[.int .u64 (limb 1 (modN A P)), .int .u64 (limb 0 (modN A P))] ∧ Box W' (v3_8) #[.int .u64 (limb 0 (modN A P)), .int .u64 (limb 1 (modN A P)), .int .u64 (limb 2 (modN A P)), .int .u64 (limb 3 (modN A P))]) (fun W' => Kept w.heap.size w W' ∧ w2.heap.size ≤ W'.heap.size ∧ Box W' (w.heap.size) #[.int .u64 (limb 0 A), .int .u64 (limb 1 A), .int .u64 (limb 2 A), .int .u64 (limb 3 A)] ∧ Box W' (v2_9) #[.int .u64 (limb 0 (rightN A (by_ % 128))), .int .u64 (limb 1 (rightN A (by_ % 128))), .int .u64 (limb 2 (rightN A (by_ % 128))), .int .u64 (limb 3 (rightN A (by_ % 128)))] ∧ Box W' (v2_10) #[.int .u64 (limb 1 (modN A P)), .int .u64 (limb 0 (modN A P))] ∧ Box W' (v3_8) #[.int .u64 (limb 0 (modN A P)), .int .u64 (limb 1 (modN A P)), .int .u64 (limb 2 (modN A P)), .int .u64 (limb 3 (modN A P))]) 1000 (w2.heap.size) [.known (.bool true), .known (.bool true), .known (wideV (rightN A (by_ % 128))), .known (wideV A), .known (.int .i64 (by_ % 128)), .known (wideV (rightN A (by_ % 128))), .known (.bool true), .known (.bool true), .known (.bool true), .known (.bool (ltB A (left256 (rightN A (by_ % 128)) (by_ % 128)))), .known (.bool true), .known (.bool true), .known (.bool true), .known (wideV (modN A P)), .known (bitsV (modN A P)), .known (wideV (modN A P)), .known (.bool true), .known (.bool true), .known (.bool true), .known (bitsV (modN A P)), .known (.bool (zeroB (modN A P))), .known (wideV A), .known (.int .i64 (by_ % 128)), .known (.bool (lostB A (by_ % 128))), .known (.bool true), .known (.bool true), .known (.bool true), .known (.bool true), .known (.bool true), .known (.bool true)] (by kernel_rfl) (by kernel_rfl) (fun W W' h hb => ⟨h.1.step hb, Nat.le_trans (h.2.1) hb.size, Box.call hb (h.2.2.1), Box.call hb (h.2.2.2.1), Box.call hb (h.2.2.2.2.1), Box.call hb (h.2.2.2.2.2)⟩) (fun W W' h hb => ⟨h.1.step hb, Nat.le_trans (h.2.1) hb.size, Box.call hb (h.2.2.1), Box.call hb (h.2.2.2.1), Box.call hb (h.2.2.2.2.1), Box.call hb (h.2.2.2.2.2)⟩) (no_out (of_decide_eq_true (by kernel_rfl))) (.inl (by kernel_rfl)) (.inl (by kernel_rfl)) (fun _ h => h.2.1) (fun _ h => h.2.1) (⟨(by repeat (first | with_reducible exact hk | with_reducible exact Kept.refl _ | with_reducible refine Kept.alloc ?_ _ | with_reducible refine Kept.drew ?_ | with_reducible refine Kept.setCell ?_ (by simp only [World.size_alloc, World.size_setCell, World.size_drew]; omega) _)), (by (try simp only [World.size_alloc, World.size_setCell, World.size_drew]); omega), (by repeat (first | with_reducible assumption | with_reducible apply Box.set10 | with_reducible apply Box.set20 | with_reducible apply Box.set21 | with_reducible apply Box.set40 | with_reducible apply Box.set41 | with_reducible apply Box.set42 | with_reducible apply Box.set43 | with_reducible apply Box.set50 | with_reducible apply Box.set51 | with_reducible apply Box.set52 | with_reducible apply Box.set53 | with_reducible apply Box.set54 | with_reducible apply Box.drew | (with_reducible apply Box.newAt; (try simp only [World.size_alloc, World.size_setCell, World.size_drew]); done) | with_reducible apply Box.alloc | (with_reducible apply Box.other; case hne => ((try simp only [World.size_alloc, World.size_setCell, World.size_drew]); omega)))), (by repeat (first | with_reducible assumption | with_reducible apply Box.set10 | with_reducible apply Box.set20 | with_reducible apply Box.set21 | with_reducible apply Box.set40 | with_reducible apply Box.set41 | with_reducible apply Box.set42 | with_reducible apply Box.set43 | with_reducible apply Box.set50 | with_reducible apply Box.set51 | with_reducible apply Box.set52 | with_reducible apply Box.set53 | with_reducible apply Box.set54 | with_reducible apply Box.drew | (with_reducible apply Box.newAt; (try simp only [World.size_alloc, World.size_setCell, World.size_drew]); done) | with_reducible apply Box.alloc | (with_reducible apply Box.other; case hne => ((try simp only [World.size_alloc, World.size_setCell, World.size_drew]); omega)))), (by repeat (first | with_reducible assumption | with_reducible apply Box.set10 | with_reducible apply Box.set20 | with_reducible apply Box.set21 | with_reducible apply Box.set40 | with_reducible apply Box.set41 | with_reducible apply Box.set42 | with_reducible apply Box.set43 | with_reducible apply Box.set50 | with_reducible apply Box.set51 | with_reducible apply Box.set52 | with_reducible apply Box.set53 | with_reducible apply Box.set54 | with_reducible apply Box.drew | (with_reducible apply Box.newAt; (try simp only [World.size_alloc, World.size_setCell, World.size_drew]); done) | with_reducible apply Box.alloc | (with_reducible apply Box.other; case hne => ((try simp only [World.size_alloc, World.size_setCell, World.size_drew]); omega)))), (by repeat (first | with_reducible assumption | with_reducible apply Box.set10 | with_reducible apply Box.set20 | with_reducible apply Box.set21 | with_reducible apply Box.set40 | with_reducible apply Box.set41 | with_reducible apply Box.set42 | with_reducible apply Box.set43 | with_reducible apply Box.set50 | with_reducible apply Box.set51 | with_reducible apply Box.set52 | with_reducible apply Box.set53 | with_reducible apply Box.set54 | with_reducible apply Box.drew | (with_reducible apply Box.newAt; (try simp only [World.size_alloc, World.size_setCell, World.size_drew]); done) | with_reducible apply Box.alloc | (with_reducible apply Box.other; case hne => ((try simp only [World.size_alloc, World.size_setCell, World.size_drew]); omega))))⟩) ?_
      clear hk
      clear X1 X1l1 X1l2 X1l3 X1f X10 X11 X12 X13
      clear Bv2_9 Bv2_9l1 Bv2_9l2 Bv2_9l3 Bv2_9f Bv2_90 Bv2_91 Bv2_92 Bv2_93
      clear Bv2_10 Bv2_10l1 Bv2_10l2 Bv2_10l3 Bv2_10f Bv2_100 Bv2_101
      clear Bv3_8 Bv3_8l1 Bv3_8l2 Bv3_8l3 Bv3_8f Bv3_80 Bv3_81 Bv3_82 Bv3_83
      intro ρ
      simp only [List.take_succ_cons, List.take_zero, List.drop_succ_cons, List.drop_zero]
      refine ⟨?_, ?_⟩
      · as_aux_lemma =>
        intro y_ hS_ hD
        clear hS_ hD
        refine s_gen (V := .bool true) [.bool true] (by kernel_rfl) (by kernel_rfl) (by kernel_rfl) ?_
        intro r_ hr_
        have o0_ : r_ (.tmp 8) = .bool true := op_at hr_ 0 (by kernel_rfl) (by kernel_rfl)
        clear hr_
        go_simp; first | done | with_reducible rfl
      simp only [Act.put, planVG, List.setIfInBounds_toArray, List.set_cons_zero, List.set_cons_succ, List.getElem?_cons_zero, List.getElem?_cons_succ]
      refine ⟨?_, ?_⟩
      · as_aux_lemma =>
        intro y_ hS_ hD
        clear hS_ hD
        refine s_gen (V := .bool true) [.bool true] (by kernel_rfl) (by kernel_rfl) (by kernel_rfl) ?_
        intro r_ hr_
        have o0_ : r_ (.tmp 31) = .bool true := op_at hr_ 0 (by kernel_rfl) (by kernel_rfl)
        clear hr_
        go_simp; first | done | with_reducible rfl
      simp only [Act.put, planVG, List.setIfInBounds_toArray, List.set_cons_zero, List.set_cons_succ, List.getElem?_cons_zero, List.getElem?_cons_succ]
      refine ⟨?_, ?_⟩
      · as_aux_lemma =>
        intro y_ hS_ hD
        have hS := hS_ (by rfl)
        have Q := (hS.2.2.2.1).cell
        have q0 := Q 0 _ rfl
        have q1 := Q 1 _ rfl
        have q2 := Q 2 _ rfl
        have q3 := Q 3 _ rfl
        clear Q hS hS_ hD
        refine s_gen (V := wideV (rightN A (by_ % 128))) [.pointer (some ⟨v2_9, 0, none⟩)] (by kernel_rfl) (by kernel_rfl) (by kernel_rfl) ?_
        intro r_ hr_
        have o0_ : r_ (.tmp 6) = .pointer (some ⟨v2_9, 0, none⟩) := op_at hr_ 0 (by kernel_rfl) (by kernel_rfl)
        clear hr_
        go_simp; first | done | with_reducible rfl
      simp only [Act.put, planVG, List.setIfInBounds_toArray, List.set_cons_zero, List.set_cons_succ, List.getElem?_cons_zero, List.getElem?_cons_succ]
      refine ⟨?_, ?_⟩
      · as_aux_lemma =>
        intro y_ hS_ hD
        have hS := hS_ (by rfl)
        have Q := (hS.2.2.1).cell
        have q0 := Q 0 _ rfl
        have q1 := Q 1 _ rfl
        have q2 := Q 2 _ rfl
        have q3 := Q 3 _ rfl
        clear Q hS hS_ hD
        refine s_gen (V := wideV A) [.pointer (some ⟨w.heap.size, 0, none⟩)] (by kernel_rfl) (by kernel_rfl) (by kernel_rfl) ?_
        intro r_ hr_
        have o0_ : r_ (.tmp 2) = .pointer (some ⟨w.heap.size, 0, none⟩) := op_at hr_ 0 (by kernel_rfl) (by kernel_rfl)
        clear hr_
        go_simp; first | done | with_reducible rfl
      simp only [Act.put, planVG, List.setIfInBounds_toArray, List.set_cons_zero, List.set_cons_succ, List.getElem?_cons_zero, List.getElem?_cons_succ]
      refine ⟨?_, ?_⟩
      · as_aux_lemma =>
        intro y_ hS_ hD
        clear hS_ hD
        refine s_gen (V := .int .i64 (by_ % 128)) [.int .i64 (by_ % 128)] (by kernel_rfl) (by kernel_rfl) (by kernel_rfl) ?_
        intro r_ hr_
        have o0_ : r_ (.tmp 5) = .int .i64 (by_ % 128) := op_at hr_ 0 (by kernel_rfl) (by kernel_rfl)
        clear hr_
        go_simp; first | done | with_reducible rfl
      simp only [Act.put, planVG, List.setIfInBounds_toArray, List.set_cons_zero, List.set_cons_succ, List.getElem?_cons_zero, List.getElem?_cons_succ]
      refine ⟨?_, ?_⟩
      · as_aux_lemma =>
        intro y_ hS_ hD
        try clear hS
        clear hS_ hD
        refine s_gcall (V := wideV (rightN A (by_ % 128))) [.func (.func 47) #[] #[], wideV A, .int .i64 (by_ % 128)] ?_ ?_ (by kernel_rfl) (by kernel_rfl) (by kernel_rfl) ?_ ?_
        rotate_left 2
        · intro r_ hr_
          have o0_ : r_ (.func 47) = .func (.func 47) #[] #[] := op_at hr_ 0 (by kernel_rfl) (by kernel_rfl)
          have o1_ : r_ (.tmp 34) = wideV A := op_at hr_ 1 (by kernel_rfl) (by kernel_rfl)
          have o2_ : r_ (.tmp 35) = .int .i64 (by_ % 128) := op_at hr_ 2 (by kernel_rfl) (by kernel_rfl)
          clear hr_
          go_simp; first | done | with_reducible rfl | (constructor <;> with_reducible rfl)
        · refine WideRight_at (IsWide.of hA) (by_ % 128) (by omega) (by omega) _
      simp only [Act.put, planVG, List.setIfInBounds_toArray, List.set_cons_zero, List.set_cons_succ, List.getElem?_cons_zero, List.getElem?_cons_succ]
      refine ⟨?_, ?_⟩
      · as_aux_lemma =>
        intro y_ hS_ hD
        clear hS_ hD
        refine s_gen (V := .bool true) [wideV (rightN A (by_ % 128)), wideV (rightN A (by_ % 128))] (by kernel_rfl) (by kernel_rfl) (by kernel_rfl) ?_
        intro r_ hr_
        have o0_ : r_ (.tmp 33) = wideV (rightN A (by_ % 128)) := op_at hr_ 0 (by kernel_rfl) (by kernel_rfl)
        have o1_ : r_ (.tmp 36) = wideV (rightN A (by_ % 128)) := op_at hr_ 1 (by kernel_rfl) (by kernel_rfl)
        clear hr_
        (try generalize rightN A (by_ % 128) = g_)
        go_simp; first | done | with_reducible rfl
      simp only [Act.put, planVG, List.setIfInBounds_toArray, List.set_cons_zero, List.set_cons_succ, List.getElem?_cons_zero, List.getElem?_cons_succ]
      refine ⟨?_, ?_⟩
      · as_aux_lemma =>
        intro y_ hS_ hD
        clear hS_ hD
        refine s_gen (V := .bool true) [.bool true, .bool true, .bool false] (by kernel_rfl) (by kernel_rfl) (by kernel_rfl) ?_
        intro r_ hr_
        have o0_ : r_ (.tmp 32) = .bool true := op_at hr_ 0 (by kernel_rfl) (by kernel_rfl)
        have o1_ : r_ (.tmp 37) = .bool true := op_at hr_ 1 (by kernel_rfl) (by kernel_rfl)
        have o2_ : r_ (.const (.bool false)) = .bool false := op_at hr_ 2 (by kernel_rfl) (by kernel_rfl)
        clear hr_
        go_simp; first | done | with_reducible rfl
      simp only [Act.put, planVG, List.setIfInBounds_toArray, List.set_cons_zero, List.set_cons_succ, List.getElem?_cons_zero, List.getElem?_cons_succ]
      refine ⟨?_, ?_⟩
      · as_aux_lemma =>
        intro y_ hS_ hD
        clear hS_ hD
        refine s_gen (V := .bool true) [.bool true] (by kernel_rfl) (by kernel_rfl) (by kernel_rfl) ?_
        intro r_ hr_
        have o0_ : r_ (.tmp 38) = .bool true := op_at hr_ 0 (by kernel_rfl) (by kernel_rfl)
        clear hr_
        go_simp; first | done | with_reducible rfl
      simp only [Act.put, planVG, List.setIfInBounds_toArray, List.set_cons_zero, List.set_cons_succ, List.getElem?_cons_zero, List.getElem?_cons_succ]
      refine ⟨?_, ?_⟩
      · as_aux_lemma =>
        intro y_ hS_ hD
        clear hS_ hD
        refine s_gen (V := .bool (ltB A (left256 (rightN A (by_ % 128)) (by_ % 128)))) [.bool (ltB A (left256 (rightN A (by_ % 128)) (by_ % 128)))] (by kernel_rfl) (by kernel_rfl) (by kernel_rfl) ?_
        intro r_ hr_
        have o0_ : r_ (.tmp 10) = .bool (ltB A (left256 (rightN A (by_ % 128)) (by_ % 128))) := op_at hr_ 0 (by kernel_rfl) (by kernel_rfl)
        clear hr_
        go_simp; first | done | with_reducible rfl
      simp only [Act.put, planVG, List.setIfInBounds_toArray, List.set_cons_zero, List.set_cons_succ, List.getElem?_cons_zero, List.getElem?_cons_succ]
      refine ⟨?_, ?_⟩
      · as_aux_lemma =>
        intro y_ hS_ hD
        clear hS_ hD
        refine s_gen (V := .bool true) [.bool (ltB A (left256 (rightN A (by_ % 128)) (by_ % 128)))] (by kernel_rfl) (by kernel_rfl) (by kernel_rfl) ?_
        intro r_ hr_
        have o0_ : r_ (.tmp 40) = .bool (ltB A (left256 (rightN A (by_ % 128)) (by_ % 128))) := op_at hr_ 0 (by kernel_rfl) (by kernel_rfl)
        clear hr_
        go_simp; first | done | with_reducible rfl
      simp only [Act.put, planVG, List.setIfInBounds_toArray, List.set_cons_zero, List.set_cons_succ, List.getElem?_cons_zero, List.getElem?_cons_succ]
      refine ⟨?_, ?_⟩
      · as_aux_lemma =>
        intro y_ hS_ hD
        clear hS_ hD
        refine s_gen (V := .bool true) [.bool true, .bool true, .bool false] (by kernel_rfl) (by kernel_rfl) (by kernel_rfl) ?_
        intro r_ hr_
        have o0_ : r_ (.tmp 39) = .bool true := op_at hr_ 0 (by kernel_rfl) (by kernel_rfl)
        have o1_ : r_ (.tmp 41) = .bool true := op_at hr_ 1 (by kernel_rfl) (by kernel_rfl)
        have o2_ : r_ (.const (.bool false)) = .bool false := op_at hr_ 2 (by kernel_rfl) (by kernel_rfl)
        clear hr_
        go_simp; first | done | with_reducible rfl
      simp only [Act.put, planVG, List.setIfInBounds_toArray, List.set_cons_zero, List.set_cons_succ, List.getElem?_cons_zero, List.getElem?_cons_succ]
      refine ⟨?_, ?_⟩
      · as_aux_lemma =>
        intro y_ hS_ hD
        clear hS_ hD
        refine s_gen (V := .bool true) [.bool true] (by kernel_rfl) (by kernel_rfl) (by kernel_rfl) ?_
        intro r_ hr_
        have o0_ : r_ (.tmp 42) = .bool true := op_at hr_ 0 (by kernel_rfl) (by kernel_rfl)
        clear hr_
        go_simp; first | done | with_reducible rfl
      simp only [Act.put, planVG, List.setIfInBounds_toArray, List.set_cons_zero, List.set_cons_succ, List.getElem?_cons_zero, List.getElem?_cons_succ]
      refine ⟨?_, ?_⟩
      · as_aux_lemma =>
        intro y_ hS_ hD
        have hS := hS_ (by rfl)
        have Q := (hS.2.2.2.2.2).cell
        have q0 := Q 0 _ rfl
        have q1 := Q 1 _ rfl
        have q2 := Q 2 _ rfl
        have q3 := Q 3 _ rfl
        clear Q hS hS_ hD
        refine s_gen (V := wideV (modN A P)) [.pointer (some ⟨v3_8, 0, none⟩)] (by kernel_rfl) (by kernel_rfl) (by kernel_rfl) ?_
        intro r_ hr_
        have o0_ : r_ (.tmp 9) = .pointer (some ⟨v3_8, 0, none⟩) := op_at hr_ 0 (by kernel_rfl) (by kernel_rfl)
        clear hr_
        go_simp; first | done | with_reducible rfl
      simp only [Act.put, planVG, List.setIfInBounds_toArray, List.set_cons_zero, List.set_cons_succ, List.getElem?_cons_zero, List.getElem?_cons_succ]
      refine ⟨?_, ?_⟩
      · as_aux_lemma =>
        intro y_ hS_ hD
        have hS := hS_ (by rfl)
        have Q := (hS.2.2.2.2.1).cell
        have q0 := Q 0 _ rfl
        have q1 := Q 1 _ rfl
        clear Q hS hS_ hD
        refine s_gen (V := bitsV (modN A P)) [.pointer (some ⟨v2_10, 0, none⟩)] (by kernel_rfl) (by kernel_rfl) (by kernel_rfl) ?_
        intro r_ hr_
        have o0_ : r_ (.tmp 7) = .pointer (some ⟨v2_10, 0, none⟩) := op_at hr_ 0 (by kernel_rfl) (by kernel_rfl)
        clear hr_
        go_simp; first | done | with_reducible rfl
      simp only [Act.put, planVG, List.setIfInBounds_toArray, List.set_cons_zero, List.set_cons_succ, List.getElem?_cons_zero, List.getElem?_cons_succ]
      refine ⟨?_, ?_⟩
      · as_aux_lemma =>
        intro y_ hS_ hD
        try clear hS
        clear hS_ hD
        refine s_gcall (V := wideV (modN A P)) [.func (.func 44) #[] #[], bitsV (modN A P)] ?_ ?_ (by kernel_rfl) (by kernel_rfl) (by kernel_rfl) ?_ ?_
        rotate_left 2
        · intro r_ hr_
          have o0_ : r_ (.func 44) = .func (.func 44) #[] #[] := op_at hr_ 0 (by kernel_rfl) (by kernel_rfl)
          have o1_ : r_ (.tmp 45) = bitsV (modN A P) := op_at hr_ 1 (by kernel_rfl) (by kernel_rfl)
          clear hr_
          go_simp; first | done | with_reducible rfl | (constructor <;> with_reducible rfl)
        · refine Of_at (IsBits.of (mod_w _ (IsBits.of hP).w hP0)) _
      simp only [Act.put, planVG, List.setIfInBounds_toArray, List.set_cons_zero, List.set_cons_succ, List.getElem?_cons_zero, List.getElem?_cons_succ]
      refine ⟨?_, ?_⟩
      · as_aux_lemma =>
        intro y_ hS_ hD
        clear hS_ hD
        refine s_gen (V := .bool true) [wideV (modN A P), wideV (modN A P)] (by kernel_rfl) (by kernel_rfl) (by kernel_rfl) ?_
        intro r_ hr_
        have o0_ : r_ (.tmp 44) = wideV (modN A P) := op_at hr_ 0 (by kernel_rfl) (by kernel_rfl)
        have o1_ : r_ (.tmp 46) = wideV (modN A P) := op_at hr_ 1 (by kernel_rfl) (by kernel_rfl)
        clear hr_
        (try generalize modN A P = g_)
        go_simp; first | done | with_reducible rfl
      simp only [Act.put, planVG, List.setIfInBounds_toArray, List.set_cons_zero, List.set_cons_succ, List.getElem?_cons_zero, List.getElem?_cons_succ]
      refine ⟨?_, ?_⟩
      · as_aux_lemma =>
        intro y_ hS_ hD
        clear hS_ hD
        refine s_gen (V := .bool true) [.bool true, .bool true, .bool false] (by kernel_rfl) (by kernel_rfl) (by kernel_rfl) ?_
        intro r_ hr_
        have o0_ : r_ (.tmp 43) = .bool true := op_at hr_ 0 (by kernel_rfl) (by kernel_rfl)
        have o1_ : r_ (.tmp 47) = .bool true := op_at hr_ 1 (by kernel_rfl) (by kernel_rfl)
        have o2_ : r_ (.const (.bool false)) = .bool false := op_at hr_ 2 (by kernel_rfl) (by kernel_rfl)
        clear hr_
        go_simp; first | done | with_reducible rfl
      simp only [Act.put, planVG, List.setIfInBounds_toArray, List.set_cons_zero, List.set_cons_succ, List.getElem?_cons_zero, List.getElem?_cons_succ]
      refine ⟨?_, ?_⟩
      · as_aux_lemma =>
        intro y_ hS_ hD
        clear hS_ hD
        refine s_gen (V := .bool true) [.bool true] (by kernel_rfl) (by kernel_rfl) (by kernel_rfl) ?_
        intro r_ hr_
        have o0_ : r_ (.tmp 48) = .bool true := op_at hr_ 0 (by kernel_rfl) (by kernel_rfl)
        clear hr_
        go_simp; first | done | with_reducible rfl
      simp only [Act.put, planVG, List.setIfInBounds_toArray, List.set_cons_zero, List.set_cons_succ, List.getElem?_cons_zero, List.getElem?_cons_succ]
      refine ⟨?_, ?_⟩
      · as_aux_lemma =>
        intro y_ hS_ hD
        have hS := hS_ (by rfl)
        have Q := (hS.2.2.2.2.1).cell
        have q0 := Q 0 _ rfl
        have q1 := Q 1 _ rfl
        clear Q hS hS_ hD
        refine s_gen (V := bitsV (modN A P)) [.pointer (some ⟨v2_10, 0, none⟩)] (by kernel_rfl) (by kernel_rfl) (by kernel_rfl) ?_
        intro r_ hr_
        have o0_ : r_ (.tmp 7) = .pointer (some ⟨v2_10, 0, none⟩) := op_at hr_ 0 (by kernel_rfl) (by kernel_rfl)
        clear hr_
        go_simp; first | done | with_reducible rfl
      simp only [Act.put, planVG, List.setIfInBounds_toArray, List.set_cons_zero, List.set_cons_succ, List.getElem?_cons_zero, List.getElem?_cons_succ]
      refine ⟨?_, ?_⟩
      · as_aux_lemma =>
        intro y_ hS_ hD
        try clear hS
        clear hS_ hD
        refine s_gcall (V := .bool (zeroB (modN A P))) [.func (.func 40) #[] #[], bitsV (modN A P)] ?_ ?_ (by kernel_rfl) (by kernel_rfl) (by kernel_rfl) ?_ ?_
        rotate_left 2
        · intro r_ hr_
          have o0_ : r_ (.func 40) = .func (.func 40) #[] #[] := op_at hr_ 0 (by kernel_rfl) (by kernel_rfl)
          have o1_ : r_ (.tmp 50) = bitsV (modN A P) := op_at hr_ 1 (by kernel_rfl) (by kernel_rfl)
          clear hr_
          go_simp; first | done | with_reducible rfl | (constructor <;> with_reducible rfl)
        · refine Zero_at (IsBits.of (mod_w _ (IsBits.of hP).w hP0)) _
      simp only [Act.put, planVG, List.setIfInBounds_toArray, List.set_cons_zero, List.set_cons_succ, List.getElem?_cons_zero, List.getElem?_cons_succ]
      refine ⟨?_, ?_⟩
      · as_aux_lemma =>
        intro y_ hS_ hD
        have hS := hS_ (by rfl)
        have Q := (hS.2.2.1).cell
        have q0 := Q 0 _ rfl
        have q1 := Q 1 _ rfl
        have q2 := Q 2 _ rfl
        have q3 := Q 3 _ rfl
        clear Q hS hS_ hD
        refine s_gen (V := wideV A) [.pointer (some ⟨w.heap.size, 0, none⟩)] (by kernel_rfl) (by kernel_rfl) (by kernel_rfl) ?_
        intro r_ hr_
        have o0_ : r_ (.tmp 2) = .pointer (some ⟨w.heap.size, 0, none⟩) := op_at hr_ 0 (by kernel_rfl) (by kernel_rfl)
        clear hr_
        go_simp; first | done | with_reducible rfl
      simp only [Act.put, planVG, List.setIfInBounds_toArray, List.set_cons_zero, List.set_cons_succ, List.getElem?_cons_zero, List.getElem?_cons_succ]
      refine ⟨?_, ?_⟩
      · as_aux_lemma =>
        intro y_ hS_ hD
        clear hS_ hD
        refine s_gen (V := .int .i64 (by_ % 128)) [.int .i64 (by_ % 128)] (by kernel_rfl) (by kernel_rfl) (by kernel_rfl) ?_
        intro r_ hr_
        have o0_ : r_ (.tmp 5) = .int .i64 (by_ % 128) := op_at hr_ 0 (by kernel_rfl) (by kernel_rfl)
        clear hr_
        go_simp; first | done | with_reducible rfl
      simp only [Act.put, planVG, List.setIfInBounds_toArray, List.set_cons_zero, List.set_cons_succ, List.getElem?_cons_zero, List.getElem?_cons_succ]
      refine ⟨?_, ?_⟩
      · as_aux_lemma =>
        intro y_ hS_ hD
        try clear hS
        clear hS_ hD
        refine s_gcall (V := .bool (lostB A (by_ % 128))) [.func (.func 48) #[] #[], wideV A, .int .i64 (by_ % 128)] ?_ ?_ (by kernel_rfl) (by kernel_rfl) (by kernel_rfl) ?_ ?_
        rotate_left 2
        · intro r_ hr_
          have o0_ : r_ (.func 48) = .func (.func 48) #[] #[] := op_at hr_ 0 (by kernel_rfl) (by kernel_rfl)
          have o1_ : r_ (.tmp 52) = wideV A := op_at hr_ 1 (by kernel_rfl) (by kernel_rfl)
          have o2_ : r_ (.tmp 53) = .int .i64 (by_ % 128) := op_at hr_ 2 (by kernel_rfl) (by kernel_rfl)
          clear hr_
          go_simp; first | done | with_reducible rfl | (constructor <;> with_reducible rfl)
        · refine Lost_at (IsWide.of hA) (by_ % 128) (by omega) (by omega) _
      simp only [Act.put, planVG, List.setIfInBounds_toArray, List.set_cons_zero, List.set_cons_succ, List.getElem?_cons_zero, List.getElem?_cons_succ]
      refine ⟨?_, ?_⟩
      · as_aux_lemma =>
        intro y_ hS_ hD
        clear hS_ hD
        refine s_gen (V := .bool true) [.bool (zeroB (modN A P)), .bool (lostB A (by_ % 128))] (by kernel_rfl) (by kernel_rfl) (by kernel_rfl) ?_
        intro r_ hr_
        have o0_ : r_ (.tmp 51) = .bool (zeroB (modN A P)) := op_at hr_ 0 (by kernel_rfl) (by kernel_rfl)
        have o1_ : r_ (.tmp 54) = .bool (lostB A (by_ % 128)) := op_at hr_ 1 (by kernel_rfl) (by kernel_rfl)
        clear hr_
        go_simp; first | done | with_reducible rfl
      simp only [Act.put, planVG, List.setIfInBounds_toArray, List.set_cons_zero, List.set_cons_succ, List.getElem?_cons_zero, List.getElem?_cons_succ]
      refine ⟨?_, ?_⟩
      · as_aux_lemma =>
        intro y_ hS_ hD
        clear hS_ hD
        refine s_gen (V := .bool true) [.bool true, .bool true, .bool false] (by kernel_rfl) (by kernel_rfl) (by kernel_rfl) ?_
        intro r_ hr_
        have o0_ : r_ (.tmp 49) = .bool true := op_at hr_ 0 (by kernel_rfl) (by kernel_rfl)
        have o1_ : r_ (.tmp 55) = .bool true := op_at hr_ 1 (by kernel_rfl) (by kernel_rfl)
        have o2_ : r_ (.const (.bool false)) = .bool false := op_at hr_ 2 (by kernel_rfl) (by kernel_rfl)
        clear hr_
        go_simp; first | done | with_reducible rfl
      simp only [Act.put, planVG, List.setIfInBounds_toArray, List.set_cons_zero, List.set_cons_succ, List.getElem?_cons_zero, List.getElem?_cons_succ]
      refine ⟨?_, ?_⟩
      · as_aux_lemma =>
        intro y_ hS_ hD
        clear hS_ hD
        refine s_gen (V := .bool true) [.bool true] (by kernel_rfl) (by kernel_rfl) (by kernel_rfl) ?_
        intro r_ hr_
        have o0_ : r_ (.tmp 56) = .bool true := op_at hr_ 0 (by kernel_rfl) (by kernel_rfl)
        clear hr_
        go_simp; first | done | with_reducible rfl
      simp only [Act.put, planVG, List.setIfInBounds_toArray, List.set_cons_zero, List.set_cons_succ, List.getElem?_cons_zero, List.getElem?_cons_succ]
      refine ⟨?_, ?_⟩
      · as_aux_lemma =>
        intro y_ hS_ hD
        try clear hS
        clear hS_ hD
        refine s_gcall (V := .bool true) [.func (.func 37) #[] #[]] ?_ ?_ (by kernel_rfl) (by kernel_rfl) (by kernel_rfl) ?_ ?_
        rotate_left 2
        · intro r_ hr_
          have o0_ : r_ (.func 37) = .func (.func 37) #[] #[] := op_at hr_ 0 (by kernel_rfl) (by kernel_rfl)
          clear hr_
          go_simp; first | done | with_reducible rfl | (constructor <;> with_reducible rfl)
        · refine goes05_any _
      simp only [Act.put, planVG, List.setIfInBounds_toArray, List.set_cons_zero, List.set_cons_succ, List.getElem?_cons_zero, List.getElem?_cons_succ]
      refine ⟨?_, ?_⟩
      · as_aux_lemma =>
        intro y_ hS_ hD
        clear hS_ hD
        refine s_gen (V := .bool true) [.bool true, .bool true, .bool false] (by kernel_rfl) (by kernel_rfl) (by kernel_rfl) ?_
        intro r_ hr_
        have o0_ : r_ (.tmp 57) = .bool true := op_at hr_ 0 (by kernel_rfl) (by kernel_rfl)
        have o1_ : r_ (.tmp 58) = .bool true := op_at hr_ 1 (by kernel_rfl) (by kernel_rfl)
        have o2_ : r_ (.const (.bool false)) = .bool false := op_at hr_ 2 (by kernel_rfl) (by kernel_rfl)
        clear hr_
        go_simp; first | done | with_reducible rfl
      simp only [Act.put, planVG, List.setIfInBounds_toArray, List.set_cons_zero, List.set_cons_succ, List.getElem?_cons_zero, List.getElem?_cons_succ]
      refine ⟨?_, ?_⟩
      · as_aux_lemma =>
        intro y_ hS_ hD
        clear hS_ hD
        refine s_gen (V := .bool true) [.bool true] (by kernel_rfl) (by kernel_rfl) (by kernel_rfl) ?_
        intro r_ hr_
        have o0_ : r_ (.tmp 59) = .bool true := op_at hr_ 0 (by kernel_rfl) (by kernel_rfl)
        clear hr_
        go_simp; first | done | with_reducible rfl
      simp only [Act.put, planVG, List.setIfInBounds_toArray, List.set_cons_zero, List.set_cons_succ, List.getElem?_cons_zero, List.getElem?_cons_succ]
      as_aux_lemma =>
        intro w3 hS hF hD_
        change wpList _ _ _ _ _ _
        replace hS := sg_no (by decide) hS
        obtain ⟨hk, hZ3, X1, Bv2_9, Bv2_10, Bv3_8⟩ := hS
        clear hF hD_
        clear ρ
        have hz_w3 := hk.size
        have X1l := X1.lt
        have X1f := X1.free
        have X1l1 : w.heap.size < w3.heap.size + 1 := by omega
        have X1l2 : w.heap.size < w3.heap.size + 1 + 1 := by omega
        have X1l3 : w.heap.size < w3.heap.size + 1 + 1 + 1 := by omega
        have X10 := X1.cell 0 _ rfl
        have X11 := X1.cell 1 _ rfl
        have X12 := X1.cell 2 _ rfl
        have X13 := X1.cell 3 _ rfl
        have Bv2_9l := Bv2_9.lt
        have Bv2_9f := Bv2_9.free
        have Bv2_9l1 : v2_9 < w3.heap.size + 1 := by omega
        have Bv2_9l2 : v2_9 < w3.heap.size + 1 + 1 := by omega
        have Bv2_9l3 : v2_9 < w3.heap.size + 1 + 1 + 1 := by omega
        have Bv2_90 := Bv2_9.cell 0 _ rfl
        have Bv2_91 := Bv2_9.cell 1 _ rfl
        have Bv2_92 := Bv2_9.cell 2 _ rfl
        have Bv2_93 := Bv2_9.cell 3 _ rfl
        have Bv2_10l := Bv2_10.lt
        have Bv2_10f := Bv2_10.free
        have Bv2_10l1 : v2_10 < w3.heap.size + 1 := by omega
        have Bv2_10l2 : v2_10 < w3.heap.size + 1 + 1 := by omega
        have Bv2_10l3 : v2_10 < w3.heap.size + 1 + 1 + 1 := by omega
        have Bv2_100 := Bv2_10.cell 0 _ rfl
        have Bv2_101 := Bv2_10.cell 1 _ rfl
        have Bv3_8l := Bv3_8.lt
        have Bv3_8f := Bv3_8.free
        have Bv3_8l1 : v3_8 < w3.heap.size + 1 := by omega
        have Bv3_8l2 : v3_8 < w3.heap.size + 1 + 1 := by omega
        have Bv3_8l3 : v3_8 < w3.heap.size + 1 + 1 + 1 := by omega
        have Bv3_80 := Bv3_8.cell 0 _ rfl
        have Bv3_81 := Bv3_8.cell 1 _ rfl
        have Bv3_82 := Bv3_8.cell 2 _ rfl
        have Bv3_83 := Bv3_8.cell 3 _ rfl
        go_wp2
        go_ret
        exact ⟨rfl, (by refine Kept.below ?_; repeat (first | with_reducible exact hk | with_reducible exact Kept.refl _ | with_reducible refine Kept.alloc ?_ _ | with_reducible refine Kept.drew ?_ | with_reducible refine Kept.setCell ?_ (by simp only [World.size_alloc, World.size_setCell, World.size_drew]; omega) _))⟩

set_option maxRecDepth 100000 in
set_option maxHeartbeats 8000000 in
theorem QuotPowers_none {A : Nat} {by_ : Int} (hA : W256 A) (b0 : 0 ≤ by_) (b1 : by_ ≤ 255) (h : lostB A (by_ % 128) = false) (w : World) :
    Calls Try.prog 14 #[wideV A, .int .u8 by_] w fun e w' => e = .returned (.bool true) ∧ Below w.heap.size w w' := by
  have hk := Kept.refl w
  have k0 : 0 ≤ by_ % 128 := by omega
  have k1 : by_ % 128 ≤ 127 := by omega
  have e0 := qp_power hA k0 k1
  have hp := Nat.two_pow_pos (by_ % 128).toNat
  have e1 : left128 (val2 1 0) (by_ % 128) = 2 ^ (by_ % 128).toNat := by
    unfold left128
    rw [show val2 1 0 = 1 from rfl, Nat.one_mul, Nat.mod_eq_of_lt (Nat.pow_lt_pow_right (by omega) (by omega))]
  have hP : W128 (2 ^ (by_ % 128).toNat) := ⟨Nat.pow_lt_pow_right (by omega) (by omega)⟩
  generalize 2 ^ (by_ % 128).toNat = P at *
  obtain ⟨e2, e3, e4, e5⟩ := e0
  rw [h] at e5
  have e6 : zeroB (modN A P) = true := e5
  clear e5
  have hP0 : 0 < P := hp
  have E1 := Lib.hid e1; have E2 := Lib.hid e2; have E3 := Lib.hid e3; clear e1 e2 e3 hp
  go_enter Try.func14, Try.ntmps14
  go_wp2
  refine wp_region_g 13 (fun W' => Kept w.heap.size w W' ∧ w.heap.size + 1 ≤ W'.heap.size ∧ Box W' (w.heap.size) #[.int .u64 (limb 0 A), .int .u64 (limb 1 A), .int .u64 (limb 2 A), .int .u64 (limb 3 A)]) (fun W' => Kept w.heap.size w W' ∧ w.heap.size + 1 ≤ W'.heap.size ∧ Box W' (w.heap.size) #[.int .u64 (limb 0 A), .int .u64 (limb 1 A), .int .u64 (limb 2 A), .int .u64 (limb 3 A)]) 1000 (w.heap.size + 1) [.known (wideV A), .known (.agg #[.int .u64 0, .int .u64 1]), .known (.int .i64 (by_ % 128)), .known (bitsV P), .known (.tuple #[wideV (rightN A (by_ % 128)), bitsV (modN A P), .bool true]), .known (.tuple #[wideV (rightN A (by_ % 128)), bitsV (modN A P), .bool true]), .known (wideV (rightN A (by_ % 128))), .known (bitsV (modN A P)), .known (.bool true), .var #[.int .u64 0, .int .u64 0, .int .u64 0, .int .u64 0] 11 [.int .u64 (limb 0 (rightN A (by_ % 128))), .int .u64 (limb 1 (rightN A (by_ % 128))), .int .u64 (limb 2 (rightN A (by_ % 128))), .int .u64 (limb 3 (rightN A (by_ % 128)))], .var #[.int .u64 0, .int .u64 0] 12 [.int .u64 (limb 1 (modN A P)), .int .u64 (limb 0 (modN A P))], .put 9, .put 10] (by kernel_rfl) (by kernel_rfl) (fun W W' h hb => ⟨h.1.step hb, Nat.le_trans (h.2.1) hb.size, Box.call hb (h.2.2)⟩) (fun W W' h hb => ⟨h.1.step hb, Nat.le_trans (h.2.1) hb.size, Box.call hb (h.2.2)⟩) (no_out (of_decide_eq_true (by kernel_rfl))) (.inr (fun W' b i v hb h => ⟨h.1.setCell (p := ⟨b, i, none⟩) (by simp only []; omega) v, (by rw [World.size_setCell]; exact h.2.1), (h.2.2).other (by omega)⟩)) (.inr (fun W' b i v hb h => ⟨h.1.setCell (p := ⟨b, i, none⟩) (by simp only []; omega) v, (by rw [World.size_setCell]; exact h.2.1), (h.2.2).other (by omega)⟩)) (fun _ h => h.2.1) (fun _ h => h.2.1) (⟨(by repeat (first | with_reducible exact hk | with_reducible exact Kept.refl _ | with_reducible refine Kept.alloc ?_ _ | with_reducible refine Kept.drew ?_ | with_reducible refine Kept.setCell ?_ (by simp only [World.size_alloc, World.size_setCell, World.size_drew]; omega) _)), (by (try simp only [World.size_alloc, World.size_setCell, World.size_drew]); omega), (by repeat (first | with_reducible assumption | with_reducible apply Box.set10 | with_reducible apply Box.set20 | with_reducible apply Box.set21 | with_reducible apply Box.set40 | with_reducible apply Box.set41 | with_reducible apply Box.set42 | with_reducible apply Box.set43 | with_reducible apply Box.set50 | with_reducible apply Box.set51 | with_reducible apply Box.set52 | with_reducible apply Box.set53 | with_reducible apply Box.set54 | with_reducible apply Box.drew | (with_reducible apply Box.newAt; (try simp only [World.size_alloc, World.size_setCell, World.size_drew]); done) | with_reducible apply Box.alloc | (with_reducible apply Box.other; case hne => ((try simp only [World.size_alloc, World.size_setCell, World.size_drew]); omega))))⟩) ?_
  clear hk
  intro ρ
  simp only [List.take_succ_cons, List.take_zero, List.drop_succ_cons, List.drop_zero]
  refine ⟨?_, ?_⟩
  · as_aux_lemma =>
    intro y_ hS_ hD
    have hS := hS_ (by rfl)
    have Q := (hS.2.2).cell
    have q0 := Q 0 _ rfl
    have q1 := Q 1 _ rfl
    have q2 := Q 2 _ rfl
    have q3 := Q 3 _ rfl
    clear Q hS hS_ hD
    refine s_gen (V := wideV A) [.pointer (some ⟨w.heap.size, 0, none⟩)] (by kernel_rfl) (by kernel_rfl) (by kernel_rfl) ?_
    intro r_ hr_
    have o0_ : r_ (.tmp 2) = .pointer (some ⟨w.heap.size, 0, none⟩) := op_at hr_ 0 (by kernel_rfl) (by kernel_rfl)
    clear hr_
    go_simp; first | done | with_reducible rfl
  simp only [Act.put, planVG, List.setIfInBounds_toArray, List.set_cons_zero, List.set_cons_succ, List.getElem?_cons_zero, List.getElem?_cons_succ]
  refine ⟨?_, ?_⟩
  · as_aux_lemma =>
    intro y_ hS_ hD
    clear hS_ hD
    refine s_gen (V := .agg #[.int .u64 0, .int .u64 1]) [.int .u64 1] (by kernel_rfl) (by kernel_rfl) (by kernel_rfl) ?_
    intro r_ hr_
    have o0_ : r_ (.const (.int .u64 1)) = .int .u64 1 := op_at hr_ 0 (by kernel_rfl) (by kernel_rfl)
    clear hr_
    go_simp; first | done | with_reducible rfl
  simp only [Act.put, planVG, List.setIfInBounds_toArray, List.set_cons_zero, List.set_cons_succ, List.getElem?_cons_zero, List.getElem?_cons_succ]
  refine ⟨?_, ?_⟩
  · as_aux_lemma =>
    intro y_ hS_ hD
    clear hS_ hD
    refine s_gen (V := .int .i64 (by_ % 128)) [.int .i64 (by_ % 128)] (by kernel_rfl) (by kernel_rfl) (by kernel_rfl) ?_
    intro r_ hr_
    have o0_ : r_ (.tmp 5) = .int .i64 (by_ % 128) := op_at hr_ 0 (by kernel_rfl) (by kernel_rfl)
    clear hr_
    go_simp; first | done | with_reducible rfl
  simp only [Act.put, planVG, List.setIfInBounds_toArray, List.set_cons_zero, List.set_cons_succ, List.getElem?_cons_zero, List.getElem?_cons_succ]
  refine ⟨?_, ?_⟩
  · as_aux_lemma =>
    intro y_ hS_ hD
    try clear hS
    clear hS_ hD
    refine s_gcall (V := bitsV P) [.func (.func 45) #[] #[], .agg #[.int .u64 0, .int .u64 1], .int .i64 (by_ % 128)] ?_ ?_ (by kernel_rfl) (by kernel_rfl) (by kernel_rfl) ?_ ?_
    rotate_left 2
    · intro r_ hr_
      have o0_ : r_ (.func 45) = .func (.func 45) #[] #[] := op_at hr_ 0 (by kernel_rfl) (by kernel_rfl)
      have o1_ : r_ (.tmp 16) = .agg #[.int .u64 0, .int .u64 1] := op_at hr_ 1 (by kernel_rfl) (by kernel_rfl)
      have o2_ : r_ (.tmp 17) = .int .i64 (by_ % 128) := op_at hr_ 2 (by kernel_rfl) (by kernel_rfl)
      clear hr_
      go_simp; first | done | with_reducible rfl | (constructor <;> with_reducible rfl)
    · refine calls_to (V := bitsV P) (Left_at (IsBits.val u64_zero (isU64_mk (by decide +kernel))) (by_ % 128) (by omega) (by omega) _) (by rw [E1.out])
  simp only [Act.put, planVG, List.setIfInBounds_toArray, List.set_cons_zero, List.set_cons_succ, List.getElem?_cons_zero, List.getElem?_cons_succ]
  refine ⟨?_, ?_⟩
  · as_aux_lemma =>
    intro y_ hS_ hD
    try clear hS
    clear hS_ hD
    refine s_gcall (V := .tuple #[wideV (rightN A (by_ % 128)), bitsV (modN A P), .bool true]) [.func (.func 34) #[] #[], wideV A, bitsV P] ?_ ?_ (by kernel_rfl) (by kernel_rfl) (by kernel_rfl) ?_ ?_
    rotate_left 2
    · intro r_ hr_
      have o0_ : r_ (.func 34) = .func (.func 34) #[] #[] := op_at hr_ 0 (by kernel_rfl) (by kernel_rfl)
      have o1_ : r_ (.tmp 15) = wideV A := op_at hr_ 1 (by kernel_rfl) (by kernel_rfl)
      have o2_ : r_ (.tmp 18) = bitsV P := op_at hr_ 2 (by kernel_rfl) (by kernel_rfl)
      clear hr_
      go_simp; first | done | with_reducible rfl | (constructor <;> with_reducible rfl)
    · refine calls_to (V := .tuple #[wideV (rightN A (by_ % 128)), bitsV (modN A P), .bool true]) (Div_at (IsWide.of hA) (IsBits.of hP) hP0 _) (by rw [E2.out])
  simp only [Act.put, planVG, List.setIfInBounds_toArray, List.set_cons_zero, List.set_cons_succ, List.getElem?_cons_zero, List.getElem?_cons_succ]
  refine ⟨?_, ?_⟩
  · as_aux_lemma =>
    intro y_ hS_ hD
    clear hS_ hD
    refine s_gen (V := .tuple #[wideV (rightN A (by_ % 128)), bitsV (modN A P), .bool true]) [.tuple #[wideV (rightN A (by_ % 128)), bitsV (modN A P), .bool true]] (by kernel_rfl) (by kernel_rfl) (by kernel_rfl) ?_
    intro r_ hr_
    have o0_ : r_ (.tmp 19) = .tuple #[wideV (rightN A (by_ % 128)), bitsV (modN A P), .bool true] := op_at hr_ 0 (by kernel_rfl) (by kernel_rfl)
    clear hr_
    go_simp; first | done | with_reducible rfl
  simp only [Act.put, planVG, List.setIfInBounds_toArray, List.set_cons_zero, List.set_cons_succ, List.getElem?_cons_zero, List.getElem?_cons_succ]
  refine ⟨?_, ?_⟩
  · as_aux_lemma =>
    intro y_ hS_ hD
    clear hS_ hD
    refine s_gen (V := wideV (rightN A (by_ % 128))) [.tuple #[wideV (rightN A (by_ % 128)), bitsV (modN A P), .bool true]] (by kernel_rfl) (by kernel_rfl) (by kernel_rfl) ?_
    intro r_ hr_
    have o0_ : r_ (.tmp 14) = .tuple #[wideV (rightN A (by_ % 128)), bitsV (modN A P), .bool true] := op_at hr_ 0 (by kernel_rfl) (by kernel_rfl)
    clear hr_
    go_simp; first | done | with_reducible rfl
  simp only [Act.put, planVG, List.setIfInBounds_toArray, List.set_cons_zero, List.set_cons_succ, List.getElem?_cons_zero, List.getElem?_cons_succ]
  refine ⟨?_, ?_⟩
  · as_aux_lemma =>
    intro y_ hS_ hD
    clear hS_ hD
    refine s_gen (V := bitsV (modN A P)) [.tuple #[wideV (rightN A (by_ % 128)), bitsV (modN A P), .bool true]] (by kernel_rfl) (by kernel_rfl) (by kernel_rfl) ?_
    intro r_ hr_
    have o0_ : r_ (.tmp 14) = .tuple #[wideV (rightN A (by_ % 128)), bitsV (modN A P), .bool true] := op_at hr_ 0 (by kernel_rfl) (by kernel_rfl)
    clear hr_
    go_simp; first | done | with_reducible rfl
  simp only [Act.put, planVG, List.setIfInBounds_toArray, List.set_cons_zero, List.set_cons_succ, List.getElem?_cons_zero, List.getElem?_cons_succ]
  refine ⟨?_, ?_⟩
  · as_aux_lemma =>
    intro y_ hS_ hD
    clear hS_ hD
    refine s_gen (V := .bool true) [.tuple #[wideV (rightN A (by_ % 128)), bitsV (modN A P), .bool true]] (by kernel_rfl) (by kernel_rfl) (by kernel_rfl) ?_
    intro r_ hr_
    have o0_ : r_ (.tmp 14) = .tuple #[wideV (rightN A (by_ % 128)), bitsV (modN A P), .bool true] := op_at hr_ 0 (by kernel_rfl) (by kernel_rfl)
    clear hr_
    go_simp; first | done | with_reducible rfl
  simp only [Act.put, planVG, List.setIfInBounds_toArray, List.set_cons_zero, List.set_cons_succ, List.getElem?_cons_zero, List.getElem?_cons_succ]
  refine ⟨?_, ?_⟩
  · as_aux_lemma =>
    intro y_ hS_ hD
    clear hS_ hD
    refine s_alloc (by rfl) (by rfl) ?_
    simp only [allocTy]
    go_simp; first | done | with_reducible rfl | rfl
  simp only [Act.put, planVG, List.setIfInBounds_toArray, List.set_cons_zero, List.set_cons_succ, List.getElem?_cons_zero, List.getElem?_cons_succ]
  refine ⟨?_, ?_⟩
  · as_aux_lemma =>
    intro y_ hS_ hD
    clear hS_ hD
    refine s_alloc (by rfl) (by rfl) ?_
    simp only [allocTy]
    go_simp; first | done | with_reducible rfl | rfl
  simp only [Act.put, planVG, List.setIfInBounds_toArray, List.set_cons_zero, List.set_cons_succ, List.getElem?_cons_zero, List.getElem?_cons_succ]
  refine ⟨?_, ?_⟩
  · as_aux_lemma =>
    intro y_ hS_ hD
    have hS := hS_ (by rfl)
    clear hS hS_ hD
    refine s_gput (j := 9) (Z := #[.int .u64 0, .int .u64 0, .int .u64 0, .int .u64 0]) (V := [.int .u64 (limb 0 (rightN A (by_ % 128))), .int .u64 (limb 1 (rightN A (by_ % 128))), .int .u64 (limb 2 (rightN A (by_ % 128))), .int .u64 (limb 3 (rightN A (by_ % 128)))]) [ρ 9, wideV (rightN A (by_ % 128))] (by kernel_rfl) (by kernel_rfl) (by kernel_rfl) (by kernel_rfl) ?_
    intro r_ b hr_ hb hB F
    have o0_ : r_ (.tmp 6) = ρ 9 := op_at hr_ 0 (by kernel_rfl) (by kernel_rfl)
    have o1_ : r_ (.tmp 20) = wideV (rightN A (by_ % 128)) := op_at hr_ 1 (by kernel_rfl) (by kernel_rfl)
    clear hr_
    rw [hb] at o0_
    have Q := F.cell
    have q0 := Q 0 _ rfl
    have q1 := Q 1 _ rfl
    have q2 := Q 2 _ rfl
    have q3 := Q 3 _ rfl
    have Qf := F.free
    have Ql := F.lt
    clear Q F
    simp only [putCells]
    go_simp; first | done | with_reducible rfl | rfl
  simp only [Act.put, planVG, List.setIfInBounds_toArray, List.set_cons_zero, List.set_cons_succ, List.getElem?_cons_zero, List.getElem?_cons_succ]
  refine ⟨?_, ?_⟩
  · as_aux_lemma =>
    intro y_ hS_ hD
    have hS := hS_ (by rfl)
    clear hS hS_ hD
    refine s_gput (j := 10) (Z := #[.int .u64 0, .int .u64 0]) (V := [.int .u64 (limb 1 (modN A P)), .int .u64 (limb 0 (modN A P))]) [ρ 10, bitsV (modN A P)] (by kernel_rfl) (by kernel_rfl) (by kernel_rfl) (by kernel_rfl) ?_
    intro r_ b hr_ hb hB F
    have o0_ : r_ (.tmp 7) = ρ 10 := op_at hr_ 0 (by kernel_rfl) (by kernel_rfl)
    have o1_ : r_ (.tmp 21) = bitsV (modN A P) := op_at hr_ 1 (by kernel_rfl) (by kernel_rfl)
    clear hr_
    rw [hb] at o0_
    have Q := F.cell
    have q0 := Q 0 _ rfl
    have q1 := Q 1 _ rfl
    have Qf := F.free
    have Ql := F.lt
    clear Q F
    simp only [putCells]
    go_simp; first | done | with_reducible rfl | rfl
  simp only [Act.put, planVG, List.setIfInBounds_toArray, List.set_cons_zero, List.set_cons_succ, List.getElem?_cons_zero, List.getElem?_cons_succ]
  as_aux_lemma =>
    intro w1 hS hF hD_
    change wpList _ _ _ _ _ _
    replace hS := sg_no (by decide) hS
    obtain ⟨hk, hZ1, X1⟩ := hS
    obtain ⟨v2_9, e_v2_9, hv2_9, Bv2_9⟩ : ∃ b, ρ 9 = .pointer (some ⟨b, 0, none⟩) ∧ w.heap.size + 1 ≤ b ∧ Box w1 b #[.int .u64 (limb 0 (rightN A (by_ % 128))), .int .u64 (limb 1 (rightN A (by_ % 128))), .int .u64 (limb 2 (rightN A (by_ % 128))), .int .u64 (limb 3 (rightN A (by_ % 128)))] := by
      obtain ⟨b, h1, h2, h3⟩ := hF 9 (by decide)
      exact ⟨b, h1, h2, h3.lt, h3.cell, h3.free⟩
    obtain ⟨v2_10, e_v2_10, hv2_10, Bv2_10⟩ : ∃ b, ρ 10 = .pointer (some ⟨b, 0, none⟩) ∧ w.heap.size + 1 ≤ b ∧ Box w1 b #[.int .u64 (limb 1 (modN A P)), .int .u64 (limb 0 (modN A P))] := by
      obtain ⟨b, h1, h2, h3⟩ := hF 10 (by decide)
      exact ⟨b, h1, h2, h3.lt, h3.cell, h3.free⟩
    have nv2_9_v2_10 : ¬ v2_9 = v2_10 := fun h => hD_ 9 10 (by decide) (by decide) (by decide) (by rfl) (by rfl) (by rw [e_v2_9, e_v2_10, h])
    have nv2_10_v2_9 : ¬ v2_10 = v2_9 := fun h => nv2_9_v2_10 h.symm
    clear hF hD_
    simp only [e_v2_9]
    clear e_v2_9
    simp only [e_v2_10]
    clear e_v2_10
    clear ρ
    have hz_w1 := hk.size
    have X1l := X1.lt
    have X1f := X1.free
    have X1l1 : w.heap.size < w1.heap.size + 1 := by omega
    have X1l2 : w.heap.size < w1.heap.size + 1 + 1 := by omega
    have X1l3 : w.heap.size < w1.heap.size + 1 + 1 + 1 := by omega
    have X10 := X1.cell 0 _ rfl
    have X11 := X1.cell 1 _ rfl
    have X12 := X1.cell 2 _ rfl
    have X13 := X1.cell 3 _ rfl
    have Bv2_9l := Bv2_9.lt
    have Bv2_9f := Bv2_9.free
    have Bv2_9l1 : v2_9 < w1.heap.size + 1 := by omega
    have Bv2_9l2 : v2_9 < w1.heap.size + 1 + 1 := by omega
    have Bv2_9l3 : v2_9 < w1.heap.size + 1 + 1 + 1 := by omega
    have Bv2_90 := Bv2_9.cell 0 _ rfl
    have Bv2_91 := Bv2_9.cell 1 _ rfl
    have Bv2_92 := Bv2_9.cell 2 _ rfl
    have Bv2_93 := Bv2_9.cell 3 _ rfl
    have Bv2_10l := Bv2_10.lt
    have Bv2_10f := Bv2_10.free
    have Bv2_10l1 : v2_10 < w1.heap.size + 1 := by omega
    have Bv2_10l2 : v2_10 < w1.heap.size + 1 + 1 := by omega
    have Bv2_10l3 : v2_10 < w1.heap.size + 1 + 1 + 1 := by omega
    have Bv2_100 := Bv2_10.cell 0 _ rfl
    have Bv2_101 := Bv2_10.cell 1 _ rfl
    go_wp2
    refine wp_region_g 10 (fun W' => Kept w.heap.size w W' ∧ w1.heap.size ≤ W'.heap.size ∧ Box W' (w.heap.size) #[.int .u64 (limb 0 A), .int .u64 (limb 1 A), .int .u64 (limb 2 A), .int .u64 (limb 3 A)] ∧ Box W' (v2_9) #[.int .u64 (limb 0 (rightN A (by_ % 128))), .int .u64 (limb 1 (rightN A (by_ % 128))), .int .u64 (limb 2 (rightN A (by_ % 128))), .int .u64 (limb 3 (rightN A (by_ % 128)))] ∧ Box W' (v2_10) #[.int .u64 (limb 1 (modN A P)), .int .u64 (limb 0 (modN A P))]) (fun W' => Kept w.heap.size w W' ∧ w1.heap.size ≤ W'.heap.size ∧ Box W' (w.heap.size) #[.int .u64 (limb 0 A), .int .u64 (limb 1 A), .int .u64 (limb 2 A), .int .u64 (limb 3 A)] ∧ Box W' (v2_9) #[.int .u64 (limb 0 (rightN A (by_ % 128))), .int .u64 (limb 1 (rightN A (by_ % 128))), .int .u64 (limb 2 (rightN A (by_ % 128))), .int .u64 (limb 3 (rightN A (by_ % 128)))] ∧ Box W' (v2_10) #[.int .u64 (limb 1 (modN A P)), .int .u64 (limb 0 (modN A P))]) 1000 (w1.heap.size) [.known (wideV A), .known (wideV (rightN A (by_ % 128))), .known (.int .i64 (by_ % 128)), .known (wideV (left256 (rightN A (by_ % 128)) (by_ % 128))), .known (.tuple #[wideV (modN A P), .bool (ltB A (left256 (rightN A (by_ % 128)) (by_ % 128)))]), .known (.tuple #[wideV (modN A P), .bool (ltB A (left256 (rightN A (by_ % 128)) (by_ % 128)))]), .known (wideV (modN A P)), .known (.bool (ltB A (left256 (rightN A (by_ % 128)) (by_ % 128)))), .var #[.int .u64 0, .int .u64 0, .int .u64 0, .int .u64 0] 9 [.int .u64 (limb 0 (modN A P)), .int .u64 (limb 1 (modN A P)), .int .u64 (limb 2 (modN A P)), .int .u64 (limb 3 (modN A P))], .put 8] (by kernel_rfl) (by kernel_rfl) (fun W W' h hb => ⟨h.1.step hb, Nat.le_trans (h.2.1) hb.size, Box.call hb (h.2.2.1), Box.call hb (h.2.2.2.1), Box.call hb (h.2.2.2.2)⟩) (fun W W' h hb => ⟨h.1.step hb, Nat.le_trans (h.2.1) hb.size, Box.call hb (h.2.2.1), Box.call hb (h.2.2.2.1), Box.call hb (h.2.2.2.2)⟩) (no_out (of_decide_eq_true (by kernel_rfl))) (.inr (fun W' b i v hb h => ⟨h.1.setCell (p := ⟨b, i, none⟩) (by simp only []; omega) v, (by rw [World.size_setCell]; exact h.2.1), (h.2.2.1).other (by omega), (h.2.2.2.1).other (by omega), (h.2.2.2.2).other (by omega)⟩)) (.inr (fun W' b i v hb h => ⟨h.1.setCell (p := ⟨b, i, none⟩) (by simp only []; omega) v, (by rw [World.size_setCell]; exact h.2.1), (h.2.2.1).other (by omega), (h.2.2.2.1).other (by omega), (h.2.2.2.2).other (by omega)⟩)) (fun _ h => h.2.1) (fun _ h => h.2.1) (⟨(by repeat (first | with_reducible exact hk | with_reducible exact Kept.refl _ | with_reducible refine Kept.alloc ?_ _ | with_reducible refine Kept.drew ?_ | with_reducible refine Kept.setCell ?_ (by simp only [World.size_alloc, World.size_setCell, World.size_drew]; omega) _)), (by (try simp only [World.size_alloc, World.size_setCell, World.size_drew]); omega), (by repeat (first | with_reducible assumption | with_reducible apply Box.set10 | with_reducible apply Box.set20 | with_reducible apply Box.set21 | with_reducible apply Box.set40 | with_reducible apply Box.set41 | with_reducible apply Box.set42 | with_reducible apply Box.set43 | with_reducible apply Box.set50 | with_reducible apply Box.set51 | with_reducible apply Box.set52 | with_reducible apply Box.set53 | with_reducible apply Box.set54 | with_reducible apply Box.drew | (with_reducible apply Box.newAt; (try simp only [World.size_alloc, World.size_setCell, World.size_drew]); done) | with_reducible apply Box.alloc | (with_reducible apply Box.other; case hne => ((try simp only [World.size_alloc, World.size_setCell, World.size_drew]); omega)))), (by repeat (first | with_reducible assumption | with_reducible apply Box.set10 | with_reducible apply Box.set20 | with_reducible apply Box.set21 | with_reducible apply Box.set40 | with_reducible apply Box.set41 | with_reducible apply Box.set42 | with_reducible apply Box.set43 | with_reducible apply Box.set50 | with_reducible apply Box.set51 | with_reducible apply Box.set52 | with_reducible apply Box.set53 | with_reducible apply Box.set54 | with_reducible apply Box.drew | (with_reducible apply Box.newAt; (try simp only [World.size_alloc, World.size_setCell, World.size_drew]); done) | with_reducible apply Box.alloc | (with_reducible apply Box.other; case hne => ((try simp only [World.size_alloc, World.size_setCell, World.size_drew]); omega)))), (by repeat (first | with_reducible assumption | with_reducible apply Box.set10 | with_reducible apply Box.set20 | with_reducible apply Box.set21 | with_reducible apply Box.set40 | with_reducible apply Box.set41 | with_reducible apply Box.set42 | with_reducible apply Box.set43 | with_reducible apply Box.set50 | with_reducible apply Box.set51 | with_reducible apply Box.set52 | with_reducible apply Box.set53 | with_reducible apply Box.set54 | with_reducible apply Box.drew | (with_reducible apply Box.newAt; (try simp only [World.size_alloc, World.size_setCell, World.size_drew]); done) | with_reducible apply Box.alloc | (with_reducible apply Box.other; case hne => ((try simp only [World.size_alloc, World.size_setCell, World.size_drew]); omega))))⟩) ?_
    clear hk
    clear X1 X1l1 X1l2 X1l3 X1f X10 X11 X12 X13
    clear Bv2_9 Bv2_9l1 Bv2_9l2 Bv2_9l3 Bv2_9f Bv2_90 Bv2_91 Bv2_92 Bv2_93
    clear Bv2_10 Bv2_10l1 Bv2_10l2 Bv2_10l3 Bv2_10f Bv2_100 Bv2_101
    intro ρ
    simp only [List.take_succ_cons, List.take_zero, List.drop_succ_cons, List.drop_zero]
    refine ⟨?_, ?_⟩
    · as_aux_lemma =>
      intro y_ hS_ hD
      have hS := hS_ (by rfl)
      have Q := (hS.2.2.1).cell
      have q0 := Q 0 _ rfl
      have q1 := Q 1 _ rfl
      have q2 := Q 2 _ rfl
      have q3 := Q 3 _ rfl
      clear Q hS hS_ hD
      refine s_gen (V := wideV A) [.pointer (some ⟨w.heap.size, 0, none⟩)] (by kernel_rfl) (by kernel_rfl) (by kernel_rfl) ?_
      intro r_ hr_
      have o0_ : r_ (.tmp 2) = .pointer (some ⟨w.heap.size, 0, none⟩) := op_at hr_ 0 (by kernel_rfl) (by kernel_rfl)
      clear hr_
      go_simp; first | done | with_reducible rfl
    simp only [Act.put, planVG, List.setIfInBounds_toArray, List.set_cons_zero, List.set_cons_succ, List.getElem?_cons_zero, List.getElem?_cons_succ]
    refine ⟨?_, ?_⟩
    · as_aux_lemma =>
      intro y_ hS_ hD
      have hS := hS_ (by rfl)
      have Q := (hS.2.2.2.1).cell
      have q0 := Q 0 _ rfl
      have q1 := Q 1 _ rfl
      have q2 := Q 2 _ rfl
      have q3 := Q 3 _ rfl
      clear Q hS hS_ hD
      refine s_gen (V := wideV (rightN A (by_ % 128))) [.pointer (some ⟨v2_9, 0, none⟩)] (by kernel_rfl) (by kernel_rfl) (by kernel_rfl) ?_
      intro r_ hr_
      have o0_ : r_ (.tmp 6) = .pointer (some ⟨v2_9, 0, none⟩) := op_at hr_ 0 (by kernel_rfl) (by kernel_rfl)
      clear hr_
      go_simp; first | done | with_reducible rfl
    simp only [Act.put, planVG, List.setIfInBounds_toArray, List.set_cons_zero, List.set_cons_succ, List.getElem?_cons_zero, List.getElem?_cons_succ]
    refine ⟨?_, ?_⟩
    · as_aux_lemma =>
      intro y_ hS_ hD
      clear hS_ hD
      refine s_gen (V := .int .i64 (by_ % 128)) [.int .i64 (by_ % 128)] (by kernel_rfl) (by kernel_rfl) (by kernel_rfl) ?_
      intro r_ hr_
      have o0_ : r_ (.tmp 5) = .int .i64 (by_ % 128) := op_at hr_ 0 (by kernel_rfl) (by kernel_rfl)
      clear hr_
      go_simp; first | done | with_reducible rfl
    simp only [Act.put, planVG, List.setIfInBounds_toArray, List.set_cons_zero, List.set_cons_succ, List.getElem?_cons_zero, List.getElem?_cons_succ]
    refine ⟨?_, ?_⟩
    · as_aux_lemma =>
      intro y_ hS_ hD
      try clear hS
      clear hS_ hD
      refine s_gcall (V := wideV (left256 (rightN A (by_ % 128)) (by_ % 128))) [.func (.func 43) #[] #[], wideV (rightN A (by_ % 128)), .int .i64 (by_ % 128)] ?_ ?_ (by kernel_rfl) (by kernel_rfl) (by kernel_rfl) ?_ ?_
      rotate_left 2
      · intro r_ hr_
        have o0_ : r_ (.func 43) = .func (.func 43) #[] #[] := op_at hr_ 0 (by kernel_rfl) (by kernel_rfl)
        have o1_ : r_ (.tmp 25) = wideV (rightN A (by_ % 128)) := op_at hr_ 1 (by kernel_rfl) (by kernel_rfl)
        have o2_ : r_ (.tmp 26) = .int .i64 (by_ % 128) := op_at hr_ 2 (by kernel_rfl) (by kernel_rfl)
        clear hr_
        go_simp; first | done | with_reducible rfl | (constructor <;> with_reducible rfl)
      · refine WideLeft_at (IsWide.of (right_w hA _)) (by_ % 128) (by omega) (by omega) _
    simp only [Act.put, planVG, List.setIfInBounds_toArray, List.set_cons_zero, List.set_cons_succ, List.getElem?_cons_zero, List.getElem?_cons_succ]
    refine ⟨?_, ?_⟩
    · as_aux_lemma =>
      intro y_ hS_ hD
      try clear hS
      clear hS_ hD
      refine s_gcall (V := .tuple #[wideV (modN A P), .bool (ltB A (left256 (rightN A (by_ % 128)) (by_ % 128)))]) [.func (.func 46) #[] #[], wideV A, wideV (left256 (rightN A (by_ % 128)) (by_ % 128))] ?_ ?_ (by kernel_rfl) (by kernel_rfl) (by kernel_rfl) ?_ ?_
      rotate_left 2
      · intro r_ hr_
        have o0_ : r_ (.func 46) = .func (.func 46) #[] #[] := op_at hr_ 0 (by kernel_rfl) (by kernel_rfl)
        have o1_ : r_ (.tmp 24) = wideV A := op_at hr_ 1 (by kernel_rfl) (by kernel_rfl)
        have o2_ : r_ (.tmp 27) = wideV (left256 (rightN A (by_ % 128)) (by_ % 128)) := op_at hr_ 2 (by kernel_rfl) (by kernel_rfl)
        clear hr_
        go_simp; first | done | with_reducible rfl | (constructor <;> with_reducible rfl)
      · refine calls_to (V := .tuple #[wideV (modN A P), .bool (ltB A (left256 (rightN A (by_ % 128)) (by_ % 128)))]) (SubW_at (IsWide.of hA) (IsWide.of (left_w _ _)) _) (by rw [E3.out])
    simp only [Act.put, planVG, List.setIfInBounds_toArray, List.set_cons_zero, List.set_cons_succ, List.getElem?_cons_zero, List.getElem?_cons_succ]
    refine ⟨?_, ?_⟩
    · as_aux_lemma =>
      intro y_ hS_ hD
      clear hS_ hD
      refine s_gen (V := .tuple #[wideV (modN A P), .bool (ltB A (left256 (rightN A (by_ % 128)) (by_ % 128)))]) [.tuple #[wideV (modN A P), .bool (ltB A (left256 (rightN A (by_ % 128)) (by_ % 128)))]] (by kernel_rfl) (by kernel_rfl) (by kernel_rfl) ?_
      intro r_ hr_
      have o0_ : r_ (.tmp 28) = .tuple #[wideV (modN A P), .bool (ltB A (left256 (rightN A (by_ % 128)) (by_ % 128)))] := op_at hr_ 0 (by kernel_rfl) (by kernel_rfl)
      clear hr_
      go_simp; first | done | with_reducible rfl
    simp only [Act.put, planVG, List.setIfInBounds_toArray, List.set_cons_zero, List.set_cons_succ, List.getElem?_cons_zero, List.getElem?_cons_succ]
    refine ⟨?_, ?_⟩
    · as_aux_lemma =>
      intro y_ hS_ hD
      clear hS_ hD
      refine s_gen (V := wideV (modN A P)) [.tuple #[wideV (modN A P), .bool (ltB A (left256 (rightN A (by_ % 128)) (by_ % 128)))]] (by kernel_rfl) (by kernel_rfl) (by kernel_rfl) ?_
      intro r_ hr_
      have o0_ : r_ (.tmp 23) = .tuple #[wideV (modN A P), .bool (ltB A (left256 (rightN A (by_ % 128)) (by_ % 128)))] := op_at hr_ 0 (by kernel_rfl) (by kernel_rfl)
      clear hr_
      go_simp; first | done | with_reducible rfl
    simp only [Act.put, planVG, List.setIfInBounds_toArray, List.set_cons_zero, List.set_cons_succ, List.getElem?_cons_zero, List.getElem?_cons_succ]
    refine ⟨?_, ?_⟩
    · as_aux_lemma =>
      intro y_ hS_ hD
      clear hS_ hD
      refine s_gen (V := .bool (ltB A (left256 (rightN A (by_ % 128)) (by_ % 128)))) [.tuple #[wideV (modN A P), .bool (ltB A (left256 (rightN A (by_ % 128)) (by_ % 128)))]] (by kernel_rfl) (by kernel_rfl) (by kernel_rfl) ?_
      intro r_ hr_
      have o0_ : r_ (.tmp 23) = .tuple #[wideV (modN A P), .bool (ltB A (left256 (rightN A (by_ % 128)) (by_ % 128)))] := op_at hr_ 0 (by kernel_rfl) (by kernel_rfl)
      clear hr_
      go_simp; first | done | with_reducible rfl
    simp only [Act.put, planVG, List.setIfInBounds_toArray, List.set_cons_zero, List.set_cons_succ, List.getElem?_cons_zero, List.getElem?_cons_succ]
    refine ⟨?_, ?_⟩
    · as_aux_lemma =>
      intro y_ hS_ hD
      clear hS_ hD
      refine s_alloc (by rfl) (by rfl) ?_
      simp only [allocTy]
      go_simp; first | done | with_reducible rfl | rfl
    simp only [Act.put, planVG, List.setIfInBounds_toArray, List.set_cons_zero, List.set_cons_succ, List.getElem?_cons_zero, List.getElem?_cons_succ]
    refine ⟨?_, ?_⟩
    · as_aux_lemma =>
      intro y_ hS_ hD
      have hS := hS_ (by rfl)
      clear hS hS_ hD
      refine s_gput (j := 8) (Z := #[.int .u64 0, .int .u64 0, .int .u64 0, .int .u64 0]) (V := [.int .u64 (limb 0 (modN A P)), .int .u64 (limb 1 (modN A P)), .int .u64 (limb 2 (modN A P)), .int .u64 (limb 3 (modN A P))]) [ρ 8, wideV (modN A P)] (by kernel_rfl) (by kernel_rfl) (by kernel_rfl) (by kernel_rfl) ?_
      intro r_ b hr_ hb hB F
      have o0_ : r_ (.tmp 9) = ρ 8 := op_at hr_ 0 (by kernel_rfl) (by kernel_rfl)
      have o1_ : r_ (.tmp 29) = wideV (modN A P) := op_at hr_ 1 (by kernel_rfl) (by kernel_rfl)
      clear hr_
      rw [hb] at o0_
      have Q := F.cell
      have q0 := Q 0 _ rfl
      have q1 := Q 1 _ rfl
      have q2 := Q 2 _ rfl
      have q3 := Q 3 _ rfl
      have Qf := F.free
      have Ql := F.lt
      clear Q F
      simp only [putCells]
      go_simp; first | done | with_reducible rfl | rfl
    simp only [Act.put, planVG, List.setIfInBounds_toArray, List.set_cons_zero, List.set_cons_succ, List.getElem?_cons_zero, List.getElem?_cons_succ]
    as_aux_lemma =>
      intro w2 hS hF hD_
      change wpList _ _ _ _ _ _
      replace hS := sg_no (by decide) hS
      obtain ⟨hk, hZ2, X1, Bv2_9, Bv2_10⟩ := hS
      obtain ⟨v3_8, e_v3_8, hv3_8, Bv3_8⟩ : ∃ b, ρ 8 = .pointer (some ⟨b, 0, none⟩) ∧ w1.heap.size ≤ b ∧ Box w2 b #[.int .u64 (limb 0 (modN A P)), .int .u64 (limb 1 (modN A P)), .int .u64 (limb 2 (modN A P)), .int .u64 (limb 3 (modN A P))] := by
        obtain ⟨b, h1, h2, h3⟩ := hF 8 (by decide)
        exact ⟨b, h1, h2, h3.lt, h3.cell, h3.free⟩
      clear hF hD_
      simp only [e_v3_8]
      clear e_v3_8
      clear ρ
      have hz_w2 := hk.size
      have X1l := X1.lt
      have X1f := X1.free
      have X1l1 : w.heap.size < w2.heap.size + 1 := by omega
      have X1l2 : w.heap.size < w2.heap.size + 1 + 1 := by omega
      have X1l3 : w.heap.size < w2.heap.size + 1 + 1 + 1 := by omega
      have X10 := X1.cell 0 _ rfl
      have X11 := X1.cell 1 _ rfl
      have X12 := X1.cell 2 _ rfl
      have X13 := X1.cell 3 _ rfl
      have Bv2_9l := Bv2_9.lt
      have Bv2_9f := Bv2_9.free
      have Bv2_9l1 : v2_9 < w2.heap.size + 1 := by omega
      have Bv2_9l2 : v2_9 < w2.heap.size + 1 + 1 := by omega
      have Bv2_9l3 : v2_9 < w2.heap.size + 1 + 1 + 1 := by omega
      have Bv2_90 := Bv2_9.cell 0 _ rfl
      have Bv2_91 := Bv2_9.cell 1 _ rfl
      have Bv2_92 := Bv2_9.cell 2 _ rfl
      have Bv2_93 := Bv2_9.cell 3 _ rfl
      have Bv2_10l := Bv2_10.lt
      have Bv2_10f := Bv2_10.free
      have Bv2_10l1 : v2_10 < w2.heap.size + 1 := by omega
      have Bv2_10l2 : v2_10 < w2.heap.size + 1 + 1 := by omega
      have Bv2_10l3 : v2_10 < w2.heap.size + 1 + 1 + 1 := by omega
      have Bv2_100 := Bv2_10.cell 0 _ rfl
      have Bv2_101 := Bv2_10.cell 1 _ rfl
      have Bv3_8l := Bv3_8.lt
      have Bv3_8f := Bv3_8.free
      have Bv3_8l1 : v3_8 < w2.heap.size + 1 := by omega
      have Bv3_8l2 : v3_8 < w2.heap.size + 1 + 1 := by omega
      have Bv3_8l3 : v3_8 < w2.heap.size + 1 + 1 + 1 := by omega
      have Bv3_80 := Bv3_8.cell 0 _ rfl
      have Bv3_81 := Bv3_8.cell 1 _ rfl
      have Bv3_82 := Bv3_8.cell 2 _ rfl
      have Bv3_83 := Bv3_8.cell 3 _ rfl
      go_wp2
      refine wp_region_g 30 (fun W' => Kept w.heap.size w W' ∧ w2.heap.size ≤ W'.heap.size ∧ Box W' (w.heap.size) #[.int .u64 (limb 0 A), .int .u64 (limb 1 A), .int .u64 (limb 2 A), .int .u64 (limb 3 A)] ∧ Box W' (v2_9) #[.int .u64 (limb 0 (rightN A (by_ % 128))), .int .u64 (limb 1 (rightN A (by_ % 128))), .int .u64 (limb 2 (rightN A (by_ % 128))), .int .u64 (limb 3 (rightN A (by_ % 128)))] ∧ Box W' (v2_10) #[.int .u64 (limb 1 (modN A P)), .int .u64 (limb 0 (modN A P))] ∧ Box W' (v3_8) #[.int .u64 (limb 0 (modN A P)), .int .u64 (limb 1 (modN A P)), .int .u64 (limb 2 (modN A P)), .int .u64 (limb 3 (modN A P))]) (fun W' => Kept w.heap.size w W' ∧ w2.heap.size ≤ W'.heap.size ∧ Box W' (w.heap.size) #[.int .u64 (limb 0 A), .int .u64 (limb 1 A), .int .u64 (limb 2 A), .int .u64 (limb 3 A)] ∧ Box W' (v2_9) #[.int .u64 (limb 0 (rightN A (by_ % 128))), .int .u64 (limb 1 (rightN A (by_ % 128))), .int .u64 (limb 2 (rightN A (by_ % 128))), .int .u64 (limb 3 (rightN A (by_ % 128)))] ∧ Box W' (v2_10) #[.int .u64 (limb 1 (modN A P)), .int .u64 (limb 0 (modN A P))] ∧ Box W' (v3_8) #[.int .u64 (limb 0 (modN A P)), .int .u64 (limb 1 (modN A P)), .int .u64 (limb 2 (modN A P)), .int .u64 (limb 3 (modN A P))]) 1000 (w2.heap.size) [.known (.bool true), .known (.bool true), .known (wideV (rightN A (by_ % 128))), .known (wideV A), .known (.int .i64 (by_ % 128)), .known (wideV (rightN A (by_ % 128))), .known (.bool true), .known (.bool true), .known (.bool true), .known (.bool (ltB A (left256 (rightN A (by_ % 128)) (by_ % 128)))), .known (.bool true), .known (.bool true), .known (.bool true), .known (wideV (modN A P)), .known (bitsV (modN A P)), .known (wideV (modN A P)), .known (.bool true), .known (.bool true), .known (.bool true), .known (bitsV (modN A P)), .known (.bool (zeroB (modN A P))), .known (wideV A), .known (.int .i64 (by_ % 128)), .known (.bool (lostB A (by_ % 128))), .known (.bool true), .known (.bool true), .known (.bool true), .known (.bool true), .known (.bool true), .known (.bool true)] (by kernel_rfl) (by kernel_rfl) (fun W W' h hb => ⟨h.1.step hb, Nat.le_trans (h.2.1) hb.size, Box.call hb (h.2.2.1), Box.call hb (h.2.2.2.1), Box.call hb (h.2.2.2.2.1), Box.call hb (h.2.2.2.2.2)⟩) (fun W W' h hb => ⟨h.1.step hb, Nat.le_trans (h.2.1) hb.size, Box.call hb (h.2.2.1), Box.call hb (h.2.2.2.1), Box.call hb (h.2.2.2.2.1), Box.call hb (h.2.2.2.2.2)⟩) (no_out (of_decide_eq_true (by kernel_rfl))) (.inl (by kernel_rfl)) (.inl (by kernel_rfl)) (fun _ h => h.2.1) (fun _ h => h.2.1) (⟨(by repeat (first | with_reducible exact hk | with_reducible exact Kept.refl _ | with_reducible refine Kept.alloc ?_ _ | with_reducible refine Kept.drew ?_ | with_reducible refine Kept.setCell ?_ (by simp only [World.size_alloc, World.size_setCell, World.size_drew]; omega) _)), (by (try simp only [World.size_alloc, World.size_setCell, World.size_drew]); omega), (by repeat (first | with_reducible assumption | with_reducible apply Box.set10 | with_reducible apply Box.set20 | with_reducible apply Box.set21 | with_reducible apply Box.set40 | with_reducible apply Box.set41 | with_reducible apply Box.set42 | with_reducible apply Box.set43 | with_reducible apply Box.set50 | with_reducible apply Box.set51 | with_reducible apply Box.set52 | with_reducible apply Box.set53 | with_reducible apply Box.set54 | with_reducible apply Box.drew | (with_reducible apply Box.newAt; (try simp only [World.size_alloc, World.size_setCell, World.size_drew]); done) | with_reducible apply Box.alloc | (with_reducible apply Box.other; case hne => ((try simp only [World.size_alloc, World.size_setCell, World.size_drew]); omega)))), (by repeat (first | with_reducible assumption | with_reducible apply Box.set10 | with_reducible apply Box.set20 | with_reducible apply Box.set21 | with_reducible apply Box.set40 | with_reducible apply Box.set41 | with_reducible apply Box.set42 | with_reducible apply Box.set43 | with_reducible apply Box.set50 | with_reducible apply Box.set51 | with_reducible apply Box.set52 | with_reducible apply Box.set53 | with_reducible apply Box.set54 | with_reducible apply Box.drew | (with_reducible apply Box.newAt; (try simp only [World.size_alloc, World.size_setCell, World.size_drew]); done) | with_reducible apply Box.alloc | (with_reducible apply Box.other; case hne => ((try simp only [World.size_alloc, World.size_setCell, World.size_drew]); omega)))), (by repeat (first | with_reducible assumption | with_reducible apply Box.set10 | with_reducible apply Box.set20 | with_reducible apply Box.set21 | with_reducible apply Box.set40 | with_reducible apply Box.set41 | with_reducible apply Box.set42 | with_reducible apply Box.set43 | with_reducible apply Box.set50 | with_reducible apply Box.set51 | with_reducible apply Box.set52 | with_reducible apply Box.set53 | with_reducible apply Box.set54 | with_reducible apply Box.drew | (with_reducible apply Box.newAt; (try simp only [World.size_alloc, World.size_setCell, World.size_drew]); done) | with_reducible apply Box.alloc | (with_reducible apply Box.other; case hne => ((try simp only [World.size_alloc, World.size_setCell, World.size_drew]); omega)))), (by repeat (first | with_reducible assumption | with_reducible apply Box.set10 | with_reducible apply Box.set20 | with_reducible apply Box.set21 | with_reducible apply Box.set40 | with_reducible apply Box.set41 | with_reducible apply Box.set42 | with_reducible apply Box.set43 | with_reducible apply Box.set50 | with_reducible apply Box.set51 | with_reducible apply Box.set52 | with_reducible apply Box.set53 | with_reducible apply Box.set54 | with_reducible apply Box.drew | (with_reducible apply Box.newAt; (try simp only [World.size_alloc, World.size_setCell, World.size_drew]); done) | with_reducible apply Box.alloc | (with_reducible apply Box.other; case hne => ((try simp only [World.size_alloc, World.size_setCell, World.size_drew]); omega))))⟩) ?_
      clear hk
      clear X1 X1l1 X1l2 X1l3 X1f X10 X11 X12 X13
      clear Bv2_9 Bv2_9l1 Bv2_9l2 Bv2_9l3 Bv2_9f Bv2_90 Bv2_91 Bv2_92 Bv2_93
      clear Bv2_10 Bv2_10l1 Bv2_10l2 Bv2_10l3 Bv2_10f Bv2_100 Bv2_101
      clear Bv3_8 Bv3_8l1 Bv3_8l2 Bv3_8l3 Bv3_8f Bv3_80 Bv3_81 Bv3_82 Bv3_83
      intro ρ
      simp only [List.take_succ_cons, List.take_zero, List.drop_succ_cons, List.drop_zero]
      refine ⟨?_, ?_⟩
      · as_aux_lemma =>
        intro y_ hS_ hD
        clear hS_ hD
        refine s_gen (V := .bool true) [.bool true] (by kernel_rfl) (by kernel_rfl) (by kernel_rfl) ?_
        intro r_ hr_
        have o0_ : r_ (.tmp 8) = .bool true := op_at hr_ 0 (by kernel_rfl) (by kernel_rfl)
        clear hr_
        go_simp; first | done | with_reducible rfl
      simp only [Act.put, planVG, List.setIfInBounds_toArray, List.set_cons_zero, List.set_cons_succ, List.getElem?_cons_zero, List.getElem?_cons_succ]
      refine ⟨?_, ?_⟩
      · as_aux_lemma =>
        intro y_ hS_ hD
        clear hS_ hD
        refine s_gen (V := .bool true) [.bool true] (by kernel_rfl) (by kernel_rfl) (by kernel_rfl) ?_
        intro r_ hr_
        have o0_ : r_ (.tmp 31) = .bool true := op_at hr_ 0 (by kernel_rfl) (by kernel_rfl)
        clear hr_
        go_simp; first | done | with_reducible rfl
      simp only [Act.put, planVG, List.setIfInBounds_toArray, List.set_cons_zero, List.set_cons_succ, List.getElem?_cons_zero, List.getElem?_cons_succ]
      refine ⟨?_, ?_⟩
      · as_aux_lemma =>
        intro y_ hS_ hD
        have hS := hS_ (by rfl)
        have Q := (hS.2.2.2.1).cell
        have q0 := Q 0 _ rfl
        have q1 := Q 1 _ rfl
        have q2 := Q 2 _ rfl
        have q3 := Q 3 _ rfl
        clear Q hS hS_ hD
        refine s_gen (V := wideV (rightN A (by_ % 128))) [.pointer (some ⟨v2_9, 0, none⟩)] (by kernel_rfl) (by kernel_rfl) (by kernel_rfl) ?_
        intro r_ hr_
        have o0_ : r_ (.tmp 6) = .pointer (some ⟨v2_9, 0, none⟩) := op_at hr_ 0 (by kernel_rfl) (by kernel_rfl)
        clear hr_
        go_simp; first | done | with_reducible rfl
      simp only [Act.put, planVG, List.setIfInBounds_toArray, List.set_cons_zero, List.set_cons_succ, List.getElem?_cons_zero, List.getElem?_cons_succ]
      refine ⟨?_, ?_⟩
      · as_aux_lemma =>
        intro y_ hS_ hD
        have hS := hS_ (by rfl)
        have Q := (hS.2.2.1).cell
        have q0 := Q 0 _ rfl
        have q1 := Q 1 _ rfl
        have q2 := Q 2 _ rfl
        have q3 := Q 3 _ rfl
        clear Q hS hS_ hD
        refine s_gen (V := wideV A) [.pointer (some ⟨w.heap.size, 0, none⟩)] (by kernel_rfl) (by kernel_rfl) (by kernel_rfl) ?_
        intro r_ hr_
        have o0_ : r_ (.tmp 2) = .pointer (some ⟨w.heap.size, 0, none⟩) := op_at hr_ 0 (by kernel_rfl) (by kernel_rfl)
        clear hr_
        go_simp; first | done | with_reducible rfl
      simp only [Act.put, planVG, List.setIfInBounds_toArray, List.set_cons_zero, List.set_cons_succ, List.getElem?_cons_zero, List.getElem?_cons_succ]
      refine ⟨?_, ?_⟩
      · as_aux_lemma =>
        intro y_ hS_ hD
        clear hS_ hD
        refine s_gen (V := .int .i64 (by_ % 128)) [.int .i64 (by_ % 128)] (by kernel_rfl) (by kernel_rfl) (by kernel_rfl) ?_
        intro r_ hr_
        have o0_ : r_ (.tmp 5) = .int .i64 (by_ % 128) := op_at hr_ 0 (by kernel_rfl) (by kernel_rfl)
        clear hr_
        go_simp; first | done | with_reducible rfl
      simp only [Act.put, planVG, List.setIfInBounds_toArray, List.set_cons_zero, List.set_cons_succ, List.getElem?_cons_zero, List.getElem?_cons_succ]
      refine ⟨?_, ?_⟩
      · as_aux_lemma =>
        intro y_ hS_ hD
        try clear hS
        clear hS_ hD
        refine s_gcall (V := wideV (rightN A (by_ % 128))) [.func (.func 47) #[] #[], wideV A, .int .i64 (by_ % 128)] ?_ ?_ (by kernel_rfl) (by kernel_rfl) (by kernel_rfl) ?_ ?_
        rotate_left 2
        · intro r_ hr_
          have o0_ : r_ (.func 47) = .func (.func 47) #[] #[] := op_at hr_ 0 (by kernel_rfl) (by kernel_rfl)
          have o1_ : r_ (.tmp 34) = wideV A := op_at hr_ 1 (by kernel_rfl) (by kernel_rfl)
          have o2_ : r_ (.tmp 35) = .int .i64 (by_ % 128) := op_at hr_ 2 (by kernel_rfl) (by kernel_rfl)
          clear hr_
          go_simp; first | done | with_reducible rfl | (constructor <;> with_reducible rfl)
        · refine WideRight_at (IsWide.of hA) (by_ % 128) (by omega) (by omega) _
      simp only [Act.put, planVG, List.setIfInBounds_toArray, List.set_cons_zero, List.set_cons_succ, List.getElem?_cons_zero, List.getElem?_cons_succ]
      refine ⟨?_, ?_⟩
      · as_aux_lemma =>
        intro y_ hS_ hD
        clear hS_ hD
        refine s_gen (V := .bool true) [wideV (rightN A (by_ % 128)), wideV (rightN A (by_ % 128))] (by kernel_rfl) (by kernel_rfl) (by kernel_rfl) ?_
        intro r_ hr_
        have o0_ : r_ (.tmp 33) = wideV (rightN A (by_ % 128)) := op_at hr_ 0 (by kernel_rfl) (by kernel_rfl)
        have o1_ : r_ (.tmp 36) = wideV (rightN A (by_ % 128)) := op_at hr_ 1 (by kernel_rfl) (by kernel_rfl)
        clear hr_
        (try generalize rightN A (by_ % 128) = g_)
        go_simp; first | done | with_reducible rfl
      simp only [Act.put, planVG, List.setIfInBounds_toArray, List.set_cons_zero, List.set_cons_succ, List.getElem?_cons_zero, List.getElem?_cons_succ]
      refine ⟨?_, ?_⟩
      · as_aux_lemma =>
        intro y_ hS_ hD
        clear hS_ hD
        refine s_gen (V := .bool true) [.bool true, .bool true, .bool false] (by kernel_rfl) (by kernel_rfl) (by kernel_rfl) ?_
        intro r_ hr_
        have o0_ : r_ (.tmp 32) = .bool true := op_at hr_ 0 (by kernel_rfl) (by kernel_rfl)
        have o1_ : r_ (.tmp 37) = .bool true := op_at hr_ 1 (by kernel_rfl) (by kernel_rfl)
        have o2_ : r_ (.const (.bool false)) = .bool false := op_at hr_ 2 (by kernel_rfl) (by kernel_rfl)
        clear hr_
        go_simp; first | done | with_reducible rfl
      simp only [Act.put, planVG, List.setIfInBounds_toArray, List.set_cons_zero, List.set_cons_succ, List.getElem?_cons_zero, List.getElem?_cons_succ]
      refine ⟨?_, ?_⟩
      · as_aux_lemma =>
        intro y_ hS_ hD
        clear hS_ hD
        refine s_gen (V := .bool true) [.bool true] (by kernel_rfl) (by kernel_rfl) (by kernel_rfl) ?_
        intro r_ hr_
        have o0_ : r_ (.tmp 38) = .bool true := op_at hr_ 0 (by kernel_rfl) (by kernel_rfl)
        clear hr_
        go_simp; first | done | with_reducible rfl
      simp only [Act.put, planVG, List.setIfInBounds_toArray, List.set_cons_zero, List.set_cons_succ, List.getElem?_cons_zero, List.getElem?_cons_succ]
      refine ⟨?_, ?_⟩
      · as_aux_lemma =>
        intro y_ hS_ hD
        clear hS_ hD
        refine s_gen (V := .bool (ltB A (left256 (rightN A (by_ % 128)) (by_ % 128)))) [.bool (ltB A (left256 (rightN A (by_ % 128)) (by_ % 128)))] (by kernel_rfl) (by kernel_rfl) (by kernel_rfl) ?_
        intro r_ hr_
        have o0_ : r_ (.tmp 10) = .bool (ltB A (left256 (rightN A (by_ % 128)) (by_ % 128))) := op_at hr_ 0 (by kernel_rfl) (by kernel_rfl)
        clear hr_
        go_simp; first | done | with_reducible rfl
      simp only [Act.put, planVG, List.setIfInBounds_toArray, List.set_cons_zero, List.set_cons_succ, List.getElem?_cons_zero, List.getElem?_cons_succ]
      refine ⟨?_, ?_⟩
      · as_aux_lemma =>
        intro y_ hS_ hD
        clear hS_ hD
        refine s_gen (V := .bool true) [.bool (ltB A (left256 (rightN A (by_ % 128)) (by_ % 128)))] (by kernel_rfl) (by kernel_rfl) (by kernel_rfl) ?_
        intro r_ hr_
        have o0_ : r_ (.tmp 40) = .bool (ltB A (left256 (rightN A (by_ % 128)) (by_ % 128))) := op_at hr_ 0 (by kernel_rfl) (by kernel_rfl)
        clear hr_
        go_simp; first | done | with_reducible rfl
      simp only [Act.put, planVG, List.setIfInBounds_toArray, List.set_cons_zero, List.set_cons_succ, List.getElem?_cons_zero, List.getElem?_cons_succ]
      refine ⟨?_, ?_⟩
      · as_aux_lemma =>
        intro y_ hS_ hD
        clear hS_ hD
        refine s_gen (V := .bool true) [.bool true, .bool true, .bool false] (by kernel_rfl) (by kernel_rfl) (by kernel_rfl) ?_
        intro r_ hr_
        have o0_ : r_ (.tmp 39) = .bool true := op_at hr_ 0 (by kernel_rfl) (by kernel_rfl)
        have o1_ : r_ (.tmp 41) = .bool true := op_at hr_ 1 (by kernel_rfl) (by kernel_rfl)
        have o2_ : r_ (.const (.bool false)) = .bool false := op_at hr_ 2 (by kernel_rfl) (by kernel_rfl)
        clear hr_
        go_simp; first | done | with_reducible rfl
      simp only [Act.put, planVG, List.setIfInBounds_toArray, List.set_cons_zero, List.set_cons_succ, List.getElem?_cons_zero, List.getElem?_cons_succ]
      refine ⟨?_, ?_⟩
      · as_aux_lemma =>
        intro y_ hS_ hD
        clear hS_ hD
        refine s_gen (V := .bool true) [.bool true] (by kernel_rfl) (by kernel_rfl) (by kernel_rfl) ?_
        intro r_ hr_
        have o0_ : r_ (.tmp 42) = .bool true := op_at hr_ 0 (by kernel_rfl) (by kernel_rfl)
        clear hr_
        go_simp; first | done | with_reducible rfl
      simp only [Act.put, planVG, List.setIfInBounds_toArray, List.set_cons_zero, List.set_cons_succ, List.getElem?_cons_zero, List.getElem?_cons_succ]
      refine ⟨?_, ?_⟩
      · as_aux_lemma =>
        intro y_ hS_ hD
        have hS := hS_ (by rfl)
        have Q := (hS.2.2.2.2.2).cell
        have q0 := Q 0 _ rfl
        have q1 := Q 1 _ rfl
        have q2 := Q 2 _ rfl
        have q3 := Q 3 _ rfl
        clear Q hS hS_ hD
        refine s_gen (V := wideV (modN A P)) [.pointer (some ⟨v3_8, 0, none⟩)] (by kernel_rfl) (by kernel_rfl) (by kernel_rfl) ?_
        intro r_ hr_
        have o0_ : r_ (.tmp 9) = .pointer (some ⟨v3_8, 0, none⟩) := op_at hr_ 0 (by kernel_rfl) (by kernel_rfl)
        clear hr_
        go_simp; first | done | with_reducible rfl
      simp only [Act.put, planVG, List.setIfInBounds_toArray, List.set_cons_zero, List.set_cons_succ, List.getElem?_cons_zero, List.getElem?_cons_succ]
      refine ⟨?_, ?_⟩
      · as_aux_lemma =>
        intro y_ hS_ hD
        have hS := hS_ (by rfl)
        have Q := (hS.2.2.2.2.1).cell
        have q0 := Q 0 _ rfl
        have q1 := Q 1 _ rfl
        clear Q hS hS_ hD
        refine s_gen (V := bitsV (modN A P)) [.pointer (some ⟨v2_10, 0, none⟩)] (by kernel_rfl) (by kernel_rfl) (by kernel_rfl) ?_
        intro r_ hr_
        have o0_ : r_ (.tmp 7) = .pointer (some ⟨v2_10, 0, none⟩) := op_at hr_ 0 (by kernel_rfl) (by kernel_rfl)
        clear hr_
        go_simp; first | done | with_reducible rfl
      simp only [Act.put, planVG, List.setIfInBounds_toArray, List.set_cons_zero, List.set_cons_succ, List.getElem?_cons_zero, List.getElem?_cons_succ]
      refine ⟨?_, ?_⟩
      · as_aux_lemma =>
        intro y_ hS_ hD
        try clear hS
        clear hS_ hD
        refine s_gcall (V := wideV (modN A P)) [.func (.func 44) #[] #[], bitsV (modN A P)] ?_ ?_ (by kernel_rfl) (by kernel_rfl) (by kernel_rfl) ?_ ?_
        rotate_left 2
        · intro r_ hr_
          have o0_ : r_ (.func 44) = .func (.func 44) #[] #[] := op_at hr_ 0 (by kernel_rfl) (by kernel_rfl)
          have o1_ : r_ (.tmp 45) = bitsV (modN A P) := op_at hr_ 1 (by kernel_rfl) (by kernel_rfl)
          clear hr_
          go_simp; first | done | with_reducible rfl | (constructor <;> with_reducible rfl)
        · refine Of_at (IsBits.of (mod_w _ (IsBits.of hP).w hP0)) _
      simp only [Act.put, planVG, List.setIfInBounds_toArray, List.set_cons_zero, List.set_cons_succ, List.getElem?_cons_zero, List.getElem?_cons_succ]
      refine ⟨?_, ?_⟩
      · as_aux_lemma =>
        intro y_ hS_ hD
        clear hS_ hD
        refine s_gen (V := .bool true) [wideV (modN A P), wideV (modN A P)] (by kernel_rfl) (by kernel_rfl) (by kernel_rfl) ?_
        intro r_ hr_
        have o0_ : r_ (.tmp 44) = wideV (modN A P) := op_at hr_ 0 (by kernel_rfl) (by kernel_rfl)
        have o1_ : r_ (.tmp 46) = wideV (modN A P) := op_at hr_ 1 (by kernel_rfl) (by kernel_rfl)
        clear hr_
        (try generalize modN A P = g_)
        go_simp; first | done | with_reducible rfl
      simp only [Act.put, planVG, List.setIfInBounds_toArray, List.set_cons_zero, List.set_cons_succ, List.getElem?_cons_zero, List.getElem?_cons_succ]
      refine ⟨?_, ?_⟩
      · as_aux_lemma =>
        intro y_ hS_ hD
        clear hS_ hD
        refine s_gen (V := .bool true) [.bool true, .bool true, .bool false] (by kernel_rfl) (by kernel_rfl) (by kernel_rfl) ?_
        intro r_ hr_
        have o0_ : r_ (.tmp 43) = .bool true := op_at hr_ 0 (by kernel_rfl) (by kernel_rfl)
        have o1_ : r_ (.tmp 47) = .bool true := op_at hr_ 1 (by kernel_rfl) (by kernel_rfl)
        have o2_ : r_ (.const (.bool false)) = .bool false := op_at hr_ 2 (by kernel_rfl) (by kernel_rfl)
        clear hr_
        go_simp; first | done | with_reducible rfl
      simp only [Act.put, planVG, List.setIfInBounds_toArray, List.set_cons_zero, List.set_cons_succ, List.getElem?_cons_zero, List.getElem?_cons_succ]
      refine ⟨?_, ?_⟩
      · as_aux_lemma =>
        intro y_ hS_ hD
        clear hS_ hD
        refine s_gen (V := .bool true) [.bool true] (by kernel_rfl) (by kernel_rfl) (by kernel_rfl) ?_
        intro r_ hr_
        have o0_ : r_ (.tmp 48) = .bool true := op_at hr_ 0 (by kernel_rfl) (by kernel_rfl)
        clear hr_
        go_simp; first | done | with_reducible rfl
      simp only [Act.put, planVG, List.setIfInBounds_toArray, List.set_cons_zero, List.set_cons_succ, List.getElem?_cons_zero, List.getElem?_cons_succ]
      refine ⟨?_, ?_⟩
      · as_aux_lemma =>
        intro y_ hS_ hD
        have hS := hS_ (by rfl)
        have Q := (hS.2.2.2.2.1).cell
        have q0 := Q 0 _ rfl
        have q1 := Q 1 _ rfl
        clear Q hS hS_ hD
        refine s_gen (V := bitsV (modN A P)) [.pointer (some ⟨v2_10, 0, none⟩)] (by kernel_rfl) (by kernel_rfl) (by kernel_rfl) ?_
        intro r_ hr_
        have o0_ : r_ (.tmp 7) = .pointer (some ⟨v2_10, 0, none⟩) := op_at hr_ 0 (by kernel_rfl) (by kernel_rfl)
        clear hr_
        go_simp; first | done | with_reducible rfl
      simp only [Act.put, planVG, List.setIfInBounds_toArray, List.set_cons_zero, List.set_cons_succ, List.getElem?_cons_zero, List.getElem?_cons_succ]
      refine ⟨?_, ?_⟩
      · as_aux_lemma =>
        intro y_ hS_ hD
        try clear hS
        clear hS_ hD
        refine s_gcall (V := .bool (zeroB (modN A P))) [.func (.func 40) #[] #[], bitsV (modN A P)] ?_ ?_ (by kernel_rfl) (by kernel_rfl) (by kernel_rfl) ?_ ?_
        rotate_left 2
        · intro r_ hr_
          have o0_ : r_ (.func 40) = .func (.func 40) #[] #[] := op_at hr_ 0 (by kernel_rfl) (by kernel_rfl)
          have o1_ : r_ (.tmp 50) = bitsV (modN A P) := op_at hr_ 1 (by kernel_rfl) (by kernel_rfl)
          clear hr_
          go_simp; first | done | with_reducible rfl | (constructor <;> with_reducible rfl)
        · refine Zero_at (IsBits.of (mod_w _ (IsBits.of hP).w hP0)) _
      simp only [Act.put, planVG, List.setIfInBounds_toArray, List.set_cons_zero, List.set_cons_succ, List.getElem?_cons_zero, List.getElem?_cons_succ]
      refine ⟨?_, ?_⟩
      · as_aux_lemma =>
        intro y_ hS_ hD
        have hS := hS_ (by rfl)
        have Q := (hS.2.2.1).cell
        have q0 := Q 0 _ rfl
        have q1 := Q 1 _ rfl
        have q2 := Q 2 _ rfl
        have q3 := Q 3 _ rfl
        clear Q hS hS_ hD
        refine s_gen (V := wideV A) [.pointer (some ⟨w.heap.size, 0, none⟩)] (by kernel_rfl) (by kernel_rfl) (by kernel_rfl) ?_
        intro r_ hr_
        have o0_ : r_ (.tmp 2) = .pointer (some ⟨w.heap.size, 0, none⟩) := op_at hr_ 0 (by kernel_rfl) (by kernel_rfl)
        clear hr_
        go_simp; first | done | with_reducible rfl
      simp only [Act.put, planVG, List.setIfInBounds_toArray, List.set_cons_zero, List.set_cons_succ, List.getElem?_cons_zero, List.getElem?_cons_succ]
      refine ⟨?_, ?_⟩
      · as_aux_lemma =>
        intro y_ hS_ hD
        clear hS_ hD
        refine s_gen (V := .int .i64 (by_ % 128)) [.int .i64 (by_ % 128)] (by kernel_rfl) (by kernel_rfl) (by kernel_rfl) ?_
        intro r_ hr_
        have o0_ : r_ (.tmp 5) = .int .i64 (by_ % 128) := op_at hr_ 0 (by kernel_rfl) (by kernel_rfl)
        clear hr_
        go_simp; first | done | with_reducible rfl
      simp only [Act.put, planVG, List.setIfInBounds_toArray, List.set_cons_zero, List.set_cons_succ, List.getElem?_cons_zero, List.getElem?_cons_succ]
      refine ⟨?_, ?_⟩
      · as_aux_lemma =>
        intro y_ hS_ hD
        try clear hS
        clear hS_ hD
        refine s_gcall (V := .bool (lostB A (by_ % 128))) [.func (.func 48) #[] #[], wideV A, .int .i64 (by_ % 128)] ?_ ?_ (by kernel_rfl) (by kernel_rfl) (by kernel_rfl) ?_ ?_
        rotate_left 2
        · intro r_ hr_
          have o0_ : r_ (.func 48) = .func (.func 48) #[] #[] := op_at hr_ 0 (by kernel_rfl) (by kernel_rfl)
          have o1_ : r_ (.tmp 52) = wideV A := op_at hr_ 1 (by kernel_rfl) (by kernel_rfl)
          have o2_ : r_ (.tmp 53) = .int .i64 (by_ % 128) := op_at hr_ 2 (by kernel_rfl) (by kernel_rfl)
          clear hr_
          go_simp; first | done | with_reducible rfl | (constructor <;> with_reducible rfl)
        · refine Lost_at (IsWide.of hA) (by_ % 128) (by omega) (by omega) _
      simp only [Act.put, planVG, List.setIfInBounds_toArray, List.set_cons_zero, List.set_cons_succ, List.getElem?_cons_zero, List.getElem?_cons_succ]
      refine ⟨?_, ?_⟩
      · as_aux_lemma =>
        intro y_ hS_ hD
        clear hS_ hD
        refine s_gen (V := .bool true) [.bool (zeroB (modN A P)), .bool (lostB A (by_ % 128))] (by kernel_rfl) (by kernel_rfl) (by kernel_rfl) ?_
        intro r_ hr_
        have o0_ : r_ (.tmp 51) = .bool (zeroB (modN A P)) := op_at hr_ 0 (by kernel_rfl) (by kernel_rfl)
        have o1_ : r_ (.tmp 54) = .bool (lostB A (by_ % 128)) := op_at hr_ 1 (by kernel_rfl) (by kernel_rfl)
        clear hr_
        go_simp; first | done | with_reducible rfl
      simp only [Act.put, planVG, List.setIfInBounds_toArray, List.set_cons_zero, List.set_cons_succ, List.getElem?_cons_zero, List.getElem?_cons_succ]
      refine ⟨?_, ?_⟩
      · as_aux_lemma =>
        intro y_ hS_ hD
        clear hS_ hD
        refine s_gen (V := .bool true) [.bool true, .bool true, .bool false] (by kernel_rfl) (by kernel_rfl) (by kernel_rfl) ?_
        intro r_ hr_
        have o0_ : r_ (.tmp 49) = .bool true := op_at hr_ 0 (by kernel_rfl) (by kernel_rfl)
        have o1_ : r_ (.tmp 55) = .bool true := op_at hr_ 1 (by kernel_rfl) (by kernel_rfl)
        have o2_ : r_ (.const (.bool false)) = .bool false := op_at hr_ 2 (by kernel_rfl) (by kernel_rfl)
        clear hr_
        go_simp; first | done | with_reducible rfl
      simp only [Act.put, planVG, List.setIfInBounds_toArray, List.set_cons_zero, List.set_cons_succ, List.getElem?_cons_zero, List.getElem?_cons_succ]
      refine ⟨?_, ?_⟩
      · as_aux_lemma =>
        intro y_ hS_ hD
        clear hS_ hD
        refine s_gen (V := .bool true) [.bool true] (by kernel_rfl) (by kernel_rfl) (by kernel_rfl) ?_
        intro r_ hr_
        have o0_ : r_ (.tmp 56) = .bool true := op_at hr_ 0 (by kernel_rfl) (by kernel_rfl)
        clear hr_
        go_simp; first | done | with_reducible rfl
      simp only [Act.put, planVG, List.setIfInBounds_toArray, List.set_cons_zero, List.set_cons_succ, List.getElem?_cons_zero, List.getElem?_cons_succ]
      refine ⟨?_, ?_⟩
      · as_aux_lemma =>
        intro y_ hS_ hD
        try clear hS
        clear hS_ hD
        refine s_gcall (V := .bool true) [.func (.func 37) #[] #[]] ?_ ?_ (by kernel_rfl) (by kernel_rfl) (by kernel_rfl) ?_ ?_
        rotate_left 2
        · intro r_ hr_
          have o0_ : r_ (.func 37) = .func (.func 37) #[] #[] := op_at hr_ 0 (by kernel_rfl) (by kernel_rfl)
          clear hr_
          go_simp; first | done | with_reducible rfl | (constructor <;> with_reducible rfl)
        · refine goes05_any _
      simp only [Act.put, planVG, List.setIfInBounds_toArray, List.set_cons_zero, List.set_cons_succ, List.getElem?_cons_zero, List.getElem?_cons_succ]
      refine ⟨?_, ?_⟩
      · as_aux_lemma =>
        intro y_ hS_ hD
        clear hS_ hD
        refine s_gen (V := .bool true) [.bool true, .bool true, .bool false] (by kernel_rfl) (by kernel_rfl) (by kernel_rfl) ?_
        intro r_ hr_
        have o0_ : r_ (.tmp 57) = .bool true := op_at hr_ 0 (by kernel_rfl) (by kernel_rfl)
        have o1_ : r_ (.tmp 58) = .bool true := op_at hr_ 1 (by kernel_rfl) (by kernel_rfl)
        have o2_ : r_ (.const (.bool false)) = .bool false := op_at hr_ 2 (by kernel_rfl) (by kernel_rfl)
        clear hr_
        go_simp; first | done | with_reducible rfl
      simp only [Act.put, planVG, List.setIfInBounds_toArray, List.set_cons_zero, List.set_cons_succ, List.getElem?_cons_zero, List.getElem?_cons_succ]
      refine ⟨?_, ?_⟩
      · as_aux_lemma =>
        intro y_ hS_ hD
        clear hS_ hD
        refine s_gen (V := .bool true) [.bool true] (by kernel_rfl) (by kernel_rfl) (by kernel_rfl) ?_
        intro r_ hr_
        have o0_ : r_ (.tmp 59) = .bool true := op_at hr_ 0 (by kernel_rfl) (by kernel_rfl)
        clear hr_
        go_simp; first | done | with_reducible rfl
      simp only [Act.put, planVG, List.setIfInBounds_toArray, List.set_cons_zero, List.set_cons_succ, List.getElem?_cons_zero, List.getElem?_cons_succ]
      as_aux_lemma =>
        intro w3 hS hF hD_
        change wpList _ _ _ _ _ _
        replace hS := sg_no (by decide) hS
        obtain ⟨hk, hZ3, X1, Bv2_9, Bv2_10, Bv3_8⟩ := hS
        clear hF hD_
        clear ρ
        have hz_w3 := hk.size
        have X1l := X1.lt
        have X1f := X1.free
        have X1l1 : w.heap.size < w3.heap.size + 1 := by omega
        have X1l2 : w.heap.size < w3.heap.size + 1 + 1 := by omega
        have X1l3 : w.heap.size < w3.heap.size + 1 + 1 + 1 := by omega
        have X10 := X1.cell 0 _ rfl
        have X11 := X1.cell 1 _ rfl
        have X12 := X1.cell 2 _ rfl
        have X13 := X1.cell 3 _ rfl
        have Bv2_9l := Bv2_9.lt
        have Bv2_9f := Bv2_9.free
        have Bv2_9l1 : v2_9 < w3.heap.size + 1 := by omega
        have Bv2_9l2 : v2_9 < w3.heap.size + 1 + 1 := by omega
        have Bv2_9l3 : v2_9 < w3.heap.size + 1 + 1 + 1 := by omega
        have Bv2_90 := Bv2_9.cell 0 _ rfl
        have Bv2_91 := Bv2_9.cell 1 _ rfl
        have Bv2_92 := Bv2_9.cell 2 _ rfl
        have Bv2_93 := Bv2_9.cell 3 _ rfl
        have Bv2_10l := Bv2_10.lt
        have Bv2_10f := Bv2_10.free
        have Bv2_10l1 : v2_10 < w3.heap.size + 1 := by omega
        have Bv2_10l2 : v2_10 < w3.heap.size + 1 + 1 := by omega
        have Bv2_10l3 : v2_10 < w3.heap.size + 1 + 1 + 1 := by omega
        have Bv2_100 := Bv2_10.cell 0 _ rfl
        have Bv2_101 := Bv2_10.cell 1 _ rfl
        have Bv3_8l := Bv3_8.lt
        have Bv3_8f := Bv3_8.free
        have Bv3_8l1 : v3_8 < w3.heap.size + 1 := by omega
        have Bv3_8l2 : v3_8 < w3.heap.size + 1 + 1 := by omega
        have Bv3_8l3 : v3_8 < w3.heap.size + 1 + 1 + 1 := by omega
        have Bv3_80 := Bv3_8.cell 0 _ rfl
        have Bv3_81 := Bv3_8.cell 1 _ rfl
        have Bv3_82 := Bv3_8.cell 2 _ rfl
        have Bv3_83 := Bv3_8.cell 3 _ rfl
        go_wp2
        go_ret
        exact ⟨rfl, (by refine Kept.below ?_; repeat (first | with_reducible exact hk | with_reducible exact Kept.refl _ | with_reducible refine Kept.alloc ?_ _ | with_reducible refine Kept.drew ?_ | with_reducible refine Kept.setCell ?_ (by simp only [World.size_alloc, World.size_setCell, World.size_drew]; omega) _))⟩

theorem QuotPowers_walk {A : Nat} {by_ : Int} (hA : W256 A) (b0 : 0 ≤ by_) (b1 : by_ ≤ 255) (w : World) :
    Calls Try.prog 14 #[wideV A, .int .u8 by_] w fun e w' => e = .returned (.bool true) ∧ Below w.heap.size w w' := by
  cases h : lostB A (by_ % 128) with
  | true => exact QuotPowers_lost hA b0 b1 h w
  | false => exact QuotPowers_none hA b0 b1 h w
end Go.Proofs.Ytjfejldiiijjbaa
