/- The walk of QuotBack. -/
import Derived.Test.YtjfejldiiijjbaaLaw05
set_option linter.unusedVariables false
set_option linter.unusedSimpArgs false
namespace Go.Proofs.Ytjfejldiiijjbaa
open Go.RowKit

set_option maxRecDepth 100000 in
set_option maxHeartbeats 8000000 in
theorem QuotBack_zero {A B D : Nat} (hA : W256 A) (hB : W128 B) (hD : W128 D) (h0 : D = 0) (w : World) :
    Calls Try.prog 15 #[wideV A, bitsV B, bitsV D] w fun e w' => e = .returned (.bool true) ∧ Below w.heap.size w w' := by
  have hk := Kept.refl w
  have z1 : zeroB D = true := decide_eq_true h0
  have HZ := Lib.hid h0
  clear h0
  go_enter Try.func15, Try.ntmps15
  go_wp2_with fail
  (with_reducible refine (Div_zero_at (IsWide.of hA) (IsBits.of hD) HZ.out _).mono ?_)
  rintro e w1 ⟨rfl, hb⟩
  have X3' : Box w1 (w.heap.size + 1 + 1) #[.int .u64 (limb 1 D), .int .u64 (limb 0 D)] := Box.call hb (by repeat (first | with_reducible assumption | with_reducible apply Box.set10 | with_reducible apply Box.set20 | with_reducible apply Box.set21 | with_reducible apply Box.set40 | with_reducible apply Box.set41 | with_reducible apply Box.set42 | with_reducible apply Box.set43 | with_reducible apply Box.set50 | with_reducible apply Box.set51 | with_reducible apply Box.set52 | with_reducible apply Box.set53 | with_reducible apply Box.set54 | with_reducible apply Box.drew | (with_reducible apply Box.newAt; (try simp only [World.size_alloc, World.size_setCell, World.size_drew]); done) | with_reducible apply Box.alloc | (with_reducible apply Box.other; case hne => ((try simp only [World.size_alloc, World.size_setCell, World.size_drew]); omega))))
  have hk' : Kept w.heap.size w w1 := Kept.step (by repeat (first | with_reducible exact hk | with_reducible exact Kept.refl _ | with_reducible refine Kept.alloc ?_ _ | with_reducible refine Kept.drew ?_ | with_reducible refine Kept.setCell ?_ (by simp only [World.size_alloc, World.size_setCell, World.size_drew]; omega) _)) hb
  clear hk hb
  have X3 := X3'
  clear X3'
  have hk := hk'
  clear hk'
  have hz_w1 := hk.size
  have X3l := X3.lt
  have X3f := X3.free
  have X3l1 : w.heap.size + 1 + 1 < w1.heap.size + 1 := by omega
  have X3l2 : w.heap.size + 1 + 1 < w1.heap.size + 1 + 1 := by omega
  have X3l3 : w.heap.size + 1 + 1 < w1.heap.size + 1 + 1 + 1 := by omega
  have X30 := X3.cell 0 _ rfl
  have X31 := X3.cell 1 _ rfl
  go_wp2_with fail
  (with_reducible refine (Zero_at (IsBits.of hD) _).mono ?_)
  rintro e w2 ⟨rfl, hb⟩
  have X4' : Box w2 (w1.heap.size) #[.int .u64 0, .int .u64 0, .int .u64 0, .int .u64 0] := Box.call hb (by repeat (first | with_reducible assumption | with_reducible apply Box.set10 | with_reducible apply Box.set20 | with_reducible apply Box.set21 | with_reducible apply Box.set40 | with_reducible apply Box.set41 | with_reducible apply Box.set42 | with_reducible apply Box.set43 | with_reducible apply Box.set50 | with_reducible apply Box.set51 | with_reducible apply Box.set52 | with_reducible apply Box.set53 | with_reducible apply Box.set54 | with_reducible apply Box.drew | (with_reducible apply Box.newAt; (try simp only [World.size_alloc, World.size_setCell, World.size_drew]); done) | with_reducible apply Box.alloc | (with_reducible apply Box.other; case hne => ((try simp only [World.size_alloc, World.size_setCell, World.size_drew]); omega))))
  have X5' : Box w2 (w1.heap.size + 1) #[.int .u64 0, .int .u64 0] := Box.call hb (by repeat (first | with_reducible assumption | with_reducible apply Box.set10 | with_reducible apply Box.set20 | with_reducible apply Box.set21 | with_reducible apply Box.set40 | with_reducible apply Box.set41 | with_reducible apply Box.set42 | with_reducible apply Box.set43 | with_reducible apply Box.set50 | with_reducible apply Box.set51 | with_reducible apply Box.set52 | with_reducible apply Box.set53 | with_reducible apply Box.set54 | with_reducible apply Box.drew | (with_reducible apply Box.newAt; (try simp only [World.size_alloc, World.size_setCell, World.size_drew]); done) | with_reducible apply Box.alloc | (with_reducible apply Box.other; case hne => ((try simp only [World.size_alloc, World.size_setCell, World.size_drew]); omega))))
  have hk' : Kept w.heap.size w w2 := Kept.step (by repeat (first | with_reducible exact hk | with_reducible exact Kept.refl _ | with_reducible refine Kept.alloc ?_ _ | with_reducible refine Kept.drew ?_ | with_reducible refine Kept.setCell ?_ (by simp only [World.size_alloc, World.size_setCell, World.size_drew]; omega) _)) hb
  clear hk hb
  clear X3 X3l1 X3l2 X3l3 X3f X30 X31
  have X4 := X4'
  clear X4'
  have X5 := X5'
  clear X5'
  have hk := hk'
  clear hk'
  have hz_w2 := hk.size
  have X4l := X4.lt
  have X4f := X4.free
  have X4l1 : w1.heap.size < w2.heap.size + 1 := by omega
  have X4l2 : w1.heap.size < w2.heap.size + 1 + 1 := by omega
  have X4l3 : w1.heap.size < w2.heap.size + 1 + 1 + 1 := by omega
  have X40 := X4.cell 0 _ rfl
  have X41 := X4.cell 1 _ rfl
  have X42 := X4.cell 2 _ rfl
  have X43 := X4.cell 3 _ rfl
  have X5l := X5.lt
  have X5f := X5.free
  have X5l1 : w1.heap.size + 1 < w2.heap.size + 1 := by omega
  have X5l2 : w1.heap.size + 1 < w2.heap.size + 1 + 1 := by omega
  have X5l3 : w1.heap.size + 1 < w2.heap.size + 1 + 1 + 1 := by omega
  have X50 := X5.cell 0 _ rfl
  have X51 := X5.cell 1 _ rfl
  go_upto_region 3 with fail
  refine wp_region_p 14 (fun W' => Kept w.heap.size w W' ∧ w2.heap.size ≤ W'.heap.size ∧ Box W' (w1.heap.size) #[.int .u64 0, .int .u64 0, .int .u64 0, .int .u64 0] ∧ Box W' (w1.heap.size + 1) #[.int .u64 0, .int .u64 0]) (fun W' => Kept w.heap.size w W' ∧ w2.heap.size ≤ W'.heap.size ∧ Box W' (w1.heap.size) #[.int .u64 0, .int .u64 0, .int .u64 0, .int .u64 0] ∧ Box W' (w1.heap.size + 1) #[.int .u64 0, .int .u64 0]) 1000 (w2.heap.size) [.known (.bool false), .known (.bool true), .known (.bool true), .known (.agg #[.int .u64 0, .int .u64 0, .int .u64 0, .int .u64 0]), .known (.bool true), .known (.bool true), .known (.bool true), .known (.agg #[.int .u64 0, .int .u64 0]), .known (.bool true), .known (.bool true), .known (.bool true), .known (.bool true), .known (.bool true), .known (.bool true)] (by kernel_rfl) (by kernel_rfl) (fun W W' h hb => ⟨h.1.step hb, Nat.le_trans (h.2.1) hb.size, Box.call hb (h.2.2.1), Box.call hb (h.2.2.2)⟩) (fun W W' h hb => ⟨h.1.step hb, Nat.le_trans (h.2.1) hb.size, Box.call hb (h.2.2.1), Box.call hb (h.2.2.2)⟩) (no_out (of_decide_eq_true (by kernel_rfl))) (.inl (by kernel_rfl)) (.inl (by kernel_rfl)) (fun _ h => h.2.1) (fun _ h => h.2.1) (⟨(by repeat (first | with_reducible exact hk | with_reducible exact Kept.refl _ | with_reducible refine Kept.alloc ?_ _ | with_reducible refine Kept.drew ?_ | with_reducible refine Kept.setCell ?_ (by simp only [World.size_alloc, World.size_setCell, World.size_drew]; omega) _)), (by (try simp only [World.size_alloc, World.size_setCell, World.size_drew]); omega), (by repeat (first | with_reducible assumption | with_reducible apply Box.set10 | with_reducible apply Box.set20 | with_reducible apply Box.set21 | with_reducible apply Box.set40 | with_reducible apply Box.set41 | with_reducible apply Box.set42 | with_reducible apply Box.set43 | with_reducible apply Box.set50 | with_reducible apply Box.set51 | with_reducible apply Box.set52 | with_reducible apply Box.set53 | with_reducible apply Box.set54 | with_reducible apply Box.drew | (with_reducible apply Box.newAt; (try simp only [World.size_alloc, World.size_setCell, World.size_drew]); done) | with_reducible apply Box.alloc | (with_reducible apply Box.other; case hne => ((try simp only [World.size_alloc, World.size_setCell, World.size_drew]); omega)))), (by repeat (first | with_reducible assumption | with_reducible apply Box.set10 | with_reducible apply Box.set20 | with_reducible apply Box.set21 | with_reducible apply Box.set40 | with_reducible apply Box.set41 | with_reducible apply Box.set42 | with_reducible apply Box.set43 | with_reducible apply Box.set50 | with_reducible apply Box.set51 | with_reducible apply Box.set52 | with_reducible apply Box.set53 | with_reducible apply Box.set54 | with_reducible apply Box.drew | (with_reducible apply Box.newAt; (try simp only [World.size_alloc, World.size_setCell, World.size_drew]); done) | with_reducible apply Box.alloc | (with_reducible apply Box.other; case hne => ((try simp only [World.size_alloc, World.size_setCell, World.size_drew]); omega))))⟩) ?_
  clear hk
  clear X4 X4l1 X4l2 X4l3 X4f X40 X41 X42 X43
  clear X5 X5l1 X5l2 X5l3 X5f X50 X51
  intro ρ
  simp only [List.take_succ_cons, List.take_zero, List.drop_succ_cons, List.drop_zero]
  refine ⟨?_, ?_⟩
  · as_aux_lemma =>
    intro y_ hS_ hD
    clear hS_ hD
    refine s_gen (V := .bool false) [.bool false] (by kernel_rfl) (by kernel_rfl) (by kernel_rfl) ?_
    intro r_ hr_
    have o0_ : r_ (.tmp 9) = .bool false := op_at hr_ 0 (by kernel_rfl) (by kernel_rfl)
    clear hr_
    go_simp; first | done | with_reducible rfl
  simp only [Act.put, planVG, List.setIfInBounds_toArray, List.set_cons_zero, List.set_cons_succ, List.getElem?_cons_zero, List.getElem?_cons_succ]
  refine ⟨?_, ?_⟩
  · as_aux_lemma =>
    intro y_ hS_ hD
    clear hS_ hD
    refine s_gen (V := .bool true) [.bool false] (by kernel_rfl) (by kernel_rfl) (by kernel_rfl) ?_
    intro r_ hr_
    have o0_ : r_ (.tmp 28) = .bool false := op_at hr_ 0 (by kernel_rfl) (by kernel_rfl)
    clear hr_
    go_simp; first | done | with_reducible rfl
  simp only [Act.put, planVG, List.setIfInBounds_toArray, List.set_cons_zero, List.set_cons_succ, List.getElem?_cons_zero, List.getElem?_cons_succ]
  refine ⟨?_, ?_⟩
  · as_aux_lemma =>
    intro y_ hS_ hD
    clear hS_ hD
    refine s_gen (V := .bool true) [.bool true] (by kernel_rfl) (by kernel_rfl) (by kernel_rfl) ?_
    intro r_ hr_
    have o0_ : r_ (.tmp 29) = .bool true := op_at hr_ 0 (by kernel_rfl) (by kernel_rfl)
    clear hr_
    go_simp; first | done | with_reducible rfl
  simp only [Act.put, planVG, List.setIfInBounds_toArray, List.set_cons_zero, List.set_cons_succ, List.getElem?_cons_zero, List.getElem?_cons_succ]
  refine ⟨?_, ?_⟩
  · as_aux_lemma =>
    intro y_ hS_ hD
    have hS := hS_ (by rfl)
    have Q := (hS.2.2.1).cell
    have q0 := Q 0 _ rfl
    have q1 := Q 1 _ rfl
    have q2 := Q 2 _ rfl
    have q3 := Q 3 _ rfl
    clear Q hS hS_ hD
    refine s_gen (V := .agg #[.int .u64 0, .int .u64 0, .int .u64 0, .int .u64 0]) [.pointer (some ⟨w1.heap.size, 0, none⟩)] (by kernel_rfl) (by kernel_rfl) (by kernel_rfl) ?_
    intro r_ hr_
    have o0_ : r_ (.tmp 7) = .pointer (some ⟨w1.heap.size, 0, none⟩) := op_at hr_ 0 (by kernel_rfl) (by kernel_rfl)
    clear hr_
    go_simp; first | done | with_reducible rfl
  simp only [Act.put, planVG, List.setIfInBounds_toArray, List.set_cons_zero, List.set_cons_succ, List.getElem?_cons_zero, List.getElem?_cons_succ]
  refine ⟨?_, ?_⟩
  · as_aux_lemma =>
    intro y_ hS_ hD
    try clear hS
    clear hS_ hD
    refine s_gcall (V := .bool true) [.func (.func 27) #[] #[], .agg #[.int .u64 0, .int .u64 0, .int .u64 0, .int .u64 0]] ?_ ?_ (by kernel_rfl) (by kernel_rfl) (by kernel_rfl) ?_ ?_
    rotate_left 2
    · intro r_ hr_
      have o0_ : r_ (.func 27) = .func (.func 27) #[] #[] := op_at hr_ 0 (by kernel_rfl) (by kernel_rfl)
      have o1_ : r_ (.tmp 31) = .agg #[.int .u64 0, .int .u64 0, .int .u64 0, .int .u64 0] := op_at hr_ 1 (by kernel_rfl) (by kernel_rfl)
      clear hr_
      go_simp; first | done | with_reducible rfl | (constructor <;> with_reducible rfl)
    · refine calls_to (V := .bool true) (ZeroW_at (IsWide.val u64_zero u64_zero u64_zero u64_zero) _) (by kernel_rfl)
  simp only [Act.put, planVG, List.setIfInBounds_toArray, List.set_cons_zero, List.set_cons_succ, List.getElem?_cons_zero, List.getElem?_cons_succ]
  refine ⟨?_, ?_⟩
  · as_aux_lemma =>
    intro y_ hS_ hD
    clear hS_ hD
    refine s_gen (V := .bool true) [.bool true, .bool true, .bool false] (by kernel_rfl) (by kernel_rfl) (by kernel_rfl) ?_
    intro r_ hr_
    have o0_ : r_ (.tmp 30) = .bool true := op_at hr_ 0 (by kernel_rfl) (by kernel_rfl)
    have o1_ : r_ (.tmp 32) = .bool true := op_at hr_ 1 (by kernel_rfl) (by kernel_rfl)
    have o2_ : r_ (.const (.bool false)) = .bool false := op_at hr_ 2 (by kernel_rfl) (by kernel_rfl)
    clear hr_
    go_simp; first | done | with_reducible rfl
  simp only [Act.put, planVG, List.setIfInBounds_toArray, List.set_cons_zero, List.set_cons_succ, List.getElem?_cons_zero, List.getElem?_cons_succ]
  refine ⟨?_, ?_⟩
  · as_aux_lemma =>
    intro y_ hS_ hD
    clear hS_ hD
    refine s_gen (V := .bool true) [.bool true] (by kernel_rfl) (by kernel_rfl) (by kernel_rfl) ?_
    intro r_ hr_
    have o0_ : r_ (.tmp 33) = .bool true := op_at hr_ 0 (by kernel_rfl) (by kernel_rfl)
    clear hr_
    go_simp; first | done | with_reducible rfl
  simp only [Act.put, planVG, List.setIfInBounds_toArray, List.set_cons_zero, List.set_cons_succ, List.getElem?_cons_zero, List.getElem?_cons_succ]
  refine ⟨?_, ?_⟩
  · as_aux_lemma =>
    intro y_ hS_ hD
    have hS := hS_ (by rfl)
    have Q := (hS.2.2.2).cell
    have q0 := Q 0 _ rfl
    have q1 := Q 1 _ rfl
    clear Q hS hS_ hD
    refine s_gen (V := .agg #[.int .u64 0, .int .u64 0]) [.pointer (some ⟨w1.heap.size + 1, 0, none⟩)] (by kernel_rfl) (by kernel_rfl) (by kernel_rfl) ?_
    intro r_ hr_
    have o0_ : r_ (.tmp 8) = .pointer (some ⟨w1.heap.size + 1, 0, none⟩) := op_at hr_ 0 (by kernel_rfl) (by kernel_rfl)
    clear hr_
    go_simp; first | done | with_reducible rfl
  simp only [Act.put, planVG, List.setIfInBounds_toArray, List.set_cons_zero, List.set_cons_succ, List.getElem?_cons_zero, List.getElem?_cons_succ]
  refine ⟨?_, ?_⟩
  · as_aux_lemma =>
    intro y_ hS_ hD
    try clear hS
    clear hS_ hD
    refine s_gcall (V := .bool true) [.func (.func 40) #[] #[], .agg #[.int .u64 0, .int .u64 0]] ?_ ?_ (by kernel_rfl) (by kernel_rfl) (by kernel_rfl) ?_ ?_
    rotate_left 2
    · intro r_ hr_
      have o0_ : r_ (.func 40) = .func (.func 40) #[] #[] := op_at hr_ 0 (by kernel_rfl) (by kernel_rfl)
      have o1_ : r_ (.tmp 35) = .agg #[.int .u64 0, .int .u64 0] := op_at hr_ 1 (by kernel_rfl) (by kernel_rfl)
      clear hr_
      go_simp; first | done | with_reducible rfl | (constructor <;> with_reducible rfl)
    · refine calls_to (V := .bool true) (Zero_at (IsBits.val u64_zero u64_zero) _) (by kernel_rfl)
  simp only [Act.put, planVG, List.setIfInBounds_toArray, List.set_cons_zero, List.set_cons_succ, List.getElem?_cons_zero, List.getElem?_cons_succ]
  refine ⟨?_, ?_⟩
  · as_aux_lemma =>
    intro y_ hS_ hD
    clear hS_ hD
    refine s_gen (V := .bool true) [.bool true, .bool true, .bool false] (by kernel_rfl) (by kernel_rfl) (by kernel_rfl) ?_
    intro r_ hr_
    have o0_ : r_ (.tmp 34) = .bool true := op_at hr_ 0 (by kernel_rfl) (by kernel_rfl)
    have o1_ : r_ (.tmp 36) = .bool true := op_at hr_ 1 (by kernel_rfl) (by kernel_rfl)
    have o2_ : r_ (.const (.bool false)) = .bool false := op_at hr_ 2 (by kernel_rfl) (by kernel_rfl)
    clear hr_
    go_simp; first | done | with_reducible rfl
  simp only [Act.put, planVG, List.setIfInBounds_toArray, List.set_cons_zero, List.set_cons_succ, List.getElem?_cons_zero, List.getElem?_cons_succ]
  refine ⟨?_, ?_⟩
  · as_aux_lemma =>
    intro y_ hS_ hD
    clear hS_ hD
    refine s_gen (V := .bool true) [.bool true] (by kernel_rfl) (by kernel_rfl) (by kernel_rfl) ?_
    intro r_ hr_
    have o0_ : r_ (.tmp 37) = .bool true := op_at hr_ 0 (by kernel_rfl) (by kernel_rfl)
    clear hr_
    go_simp; first | done | with_reducible rfl
  simp only [Act.put, planVG, List.setIfInBounds_toArray, List.set_cons_zero, List.set_cons_succ, List.getElem?_cons_zero, List.getElem?_cons_succ]
  refine ⟨?_, ?_⟩
  · as_aux_lemma =>
    intro y_ hS_ hD
    try clear hS
    clear hS_ hD
    refine s_gcall (V := .bool true) [.func (.func 37) #[] #[]] ?_ ?_ (by kernel_rfl) (by kernel_rfl) (by kernel_rfl) ?_ ?_
    rotate_left 2
    · intro r_ hr_
      have o0_ : r_ (.func 37) = .func (.func 37) #[] #[] := op_at hr_ 0 (by kernel_rfl) (by kernel_rfl)
      clear hr_
      go_simp; first | done | with_reducible rfl | (constructor <;> with_reducible rfl)
    · refine goes05_any _
  simp only [Act.put, planVG, List.setIfInBounds_toArray, List.set_cons_zero, List.set_cons_succ, List.getElem?_cons_zero, List.getElem?_cons_succ]
  refine ⟨?_, ?_⟩
  · as_aux_lemma =>
    intro y_ hS_ hD
    clear hS_ hD
    refine s_gen (V := .bool true) [.bool true, .bool true, .bool false] (by kernel_rfl) (by kernel_rfl) (by kernel_rfl) ?_
    intro r_ hr_
    have o0_ : r_ (.tmp 38) = .bool true := op_at hr_ 0 (by kernel_rfl) (by kernel_rfl)
    have o1_ : r_ (.tmp 39) = .bool true := op_at hr_ 1 (by kernel_rfl) (by kernel_rfl)
    have o2_ : r_ (.const (.bool false)) = .bool false := op_at hr_ 2 (by kernel_rfl) (by kernel_rfl)
    clear hr_
    go_simp; first | done | with_reducible rfl
  simp only [Act.put, planVG, List.setIfInBounds_toArray, List.set_cons_zero, List.set_cons_succ, List.getElem?_cons_zero, List.getElem?_cons_succ]
  refine ⟨?_, ?_⟩
  · as_aux_lemma =>
    intro y_ hS_ hD
    clear hS_ hD
    refine s_gen (V := .bool true) [.bool true] (by kernel_rfl) (by kernel_rfl) (by kernel_rfl) ?_
    intro r_ hr_
    have o0_ : r_ (.tmp 40) = .bool true := op_at hr_ 0 (by kernel_rfl) (by kernel_rfl)
    clear hr_
    go_simp; first | done | with_reducible rfl
  simp only [Act.put, planVG, List.setIfInBounds_toArray, List.set_cons_zero, List.set_cons_succ, List.getElem?_cons_zero, List.getElem?_cons_succ]
  as_aux_lemma =>
    intro w3 hS hF hD_
    change wpList _ _ _ _ _ _
    replace hS := sg_no (by decide) hS
    obtain ⟨hk, hZ3, X4, X5⟩ := hS
    clear hF hD_
    clear ρ
    have hz_w3 := hk.size
    have X4l := X4.lt
    have X4f := X4.free
    have X4l1 : w1.heap.size < w3.heap.size + 1 := by omega
    have X4l2 : w1.heap.size < w3.heap.size + 1 + 1 := by omega
    have X4l3 : w1.heap.size < w3.heap.size + 1 + 1 + 1 := by omega
    have X40 := X4.cell 0 _ rfl
    have X41 := X4.cell 1 _ rfl
    have X42 := X4.cell 2 _ rfl
    have X43 := X4.cell 3 _ rfl
    have X5l := X5.lt
    have X5f := X5.free
    have X5l1 : w1.heap.size + 1 < w3.heap.size + 1 := by omega
    have X5l2 : w1.heap.size + 1 < w3.heap.size + 1 + 1 := by omega
    have X5l3 : w1.heap.size + 1 < w3.heap.size + 1 + 1 + 1 := by omega
    have X50 := X5.cell 0 _ rfl
    have X51 := X5.cell 1 _ rfl
    go_wp2
    go_ret
    exact ⟨rfl, (by refine Kept.below ?_; repeat (first | with_reducible exact hk | with_reducible exact Kept.refl _ | with_reducible refine Kept.alloc ?_ _ | with_reducible refine Kept.drew ?_ | with_reducible refine Kept.setCell ?_ (by simp only [World.size_alloc, World.size_setCell, World.size_drew]; omega) _))⟩

set_option maxRecDepth 100000 in
set_option maxHeartbeats 8000000 in
theorem QuotBack_more {A B D : Nat} (hA : W256 A) (hB : W128 B) (hD : W128 D) (h0 : 0 < D) (w : World) :
    Calls Try.prog 15 #[wideV A, bitsV B, bitsV D] w fun e w' => e = .returned (.bool true) ∧ Below w.heap.size w w' := by
  have hk := Kept.refl w
  have z1 : zeroB D = false := decide_eq_false (by omega)
  obtain ⟨e1, e2, e3⟩ := qb_parts hA hD
  obtain ⟨e4, e5, e6⟩ := qb_whole hA h0
  obtain ⟨e7, e8⟩ := qb_prod (B := B) h0
  have hT := qb_w (D := D) hA
  generalize divN A D * D = T at *
  have E1 := Lib.hid e1; have E2 := Lib.hid e4; have E3 := Lib.hid e7; have E4 := Lib.hid e8
  have Z0 := Lib.hid (show bitsV 0 = .agg #[.int .u64 0, .int .u64 0] by kernel_rfl)
  have E5 := Lib.hid e2; have E6 := Lib.hid e5; have E7 := Lib.hid e3
  clear e1 e4 e7 e8 e2 e5 e3
  go_enter Try.func15, Try.ntmps15
  go_wp2_with fail
  (with_reducible refine (Div_at (IsWide.of hA) (IsBits.of hD) h0 _).mono ?_)
  rintro e w1 ⟨rfl, hb⟩
  have X1' : Box w1 (w.heap.size) #[.int .u64 (limb 0 A), .int .u64 (limb 1 A), .int .u64 (limb 2 A), .int .u64 (limb 3 A)] := Box.call hb (by repeat (first | with_reducible assumption | with_reducible apply Box.set10 | with_reducible apply Box.set20 | with_reducible apply Box.set21 | with_reducible apply Box.set40 | with_reducible apply Box.set41 | with_reducible apply Box.set42 | with_reducible apply Box.set43 | with_reducible apply Box.set50 | with_reducible apply Box.set51 | with_reducible apply Box.set52 | with_reducible apply Box.set53 | with_reducible apply Box.set54 | with_reducible apply Box.drew | (with_reducible apply Box.newAt; (try simp only [World.size_alloc, World.size_setCell, World.size_drew]); done) | with_reducible apply Box.alloc | (with_reducible apply Box.other; case hne => ((try simp only [World.size_alloc, World.size_setCell, World.size_drew]); omega))))
  have X2' : Box w1 (w.heap.size + 1) #[.int .u64 (limb 1 B), .int .u64 (limb 0 B)] := Box.call hb (by repeat (first | with_reducible assumption | with_reducible apply Box.set10 | with_reducible apply Box.set20 | with_reducible apply Box.set21 | with_reducible apply Box.set40 | with_reducible apply Box.set41 | with_reducible apply Box.set42 | with_reducible apply Box.set43 | with_reducible apply Box.set50 | with_reducible apply Box.set51 | with_reducible apply Box.set52 | with_reducible apply Box.set53 | with_reducible apply Box.set54 | with_reducible apply Box.drew | (with_reducible apply Box.newAt; (try simp only [World.size_alloc, World.size_setCell, World.size_drew]); done) | with_reducible apply Box.alloc | (with_reducible apply Box.other; case hne => ((try simp only [World.size_alloc, World.size_setCell, World.size_drew]); omega))))
  have X3' : Box w1 (w.heap.size + 1 + 1) #[.int .u64 (limb 1 D), .int .u64 (limb 0 D)] := Box.call hb (by repeat (first | with_reducible assumption | with_reducible apply Box.set10 | with_reducible apply Box.set20 | with_reducible apply Box.set21 | with_reducible apply Box.set40 | with_reducible apply Box.set41 | with_reducible apply Box.set42 | with_reducible apply Box.set43 | with_reducible apply Box.set50 | with_reducible apply Box.set51 | with_reducible apply Box.set52 | with_reducible apply Box.set53 | with_reducible apply Box.set54 | with_reducible apply Box.drew | (with_reducible apply Box.newAt; (try simp only [World.size_alloc, World.size_setCell, World.size_drew]); done) | with_reducible apply Box.alloc | (with_reducible apply Box.other; case hne => ((try simp only [World.size_alloc, World.size_setCell, World.size_drew]); omega))))
  have hk' : Kept w.heap.size w w1 := Kept.step (by repeat (first | with_reducible exact hk | with_reducible exact Kept.refl _ | with_reducible refine Kept.alloc ?_ _ | with_reducible refine Kept.drew ?_ | with_reducible refine Kept.setCell ?_ (by simp only [World.size_alloc, World.size_setCell, World.size_drew]; omega) _)) hb
  clear hk hb
  have X1 := X1'
  clear X1'
  have X2 := X2'
  clear X2'
  have X3 := X3'
  clear X3'
  have hk := hk'
  clear hk'
  have hz_w1 := hk.size
  have X1l := X1.lt
  have X1f := X1.free
  have X1l1 : w.heap.size < w1.heap.size + 1 := by omega
  have X1l2 : w.heap.size < w1.heap.size + 1 + 1 := by omega
  have X1l3 : w.heap.size < w1.heap.size + 1 + 1 + 1 := by omega
  have X10 := X1.cell 0 _ rfl
  have X11 := X1.cell 1 _ rfl
  have X12 := X1.cell 2 _ rfl
  have X13 := X1.cell 3 _ rfl
  have X2l := X2.lt
  have X2f := X2.free
  have X2l1 : w.heap.size + 1 < w1.heap.size + 1 := by omega
  have X2l2 : w.heap.size + 1 < w1.heap.size + 1 + 1 := by omega
  have X2l3 : w.heap.size + 1 < w1.heap.size + 1 + 1 + 1 := by omega
  have X20 := X2.cell 0 _ rfl
  have X21 := X2.cell 1 _ rfl
  have X3l := X3.lt
  have X3f := X3.free
  have X3l1 : w.heap.size + 1 + 1 < w1.heap.size + 1 := by omega
  have X3l2 : w.heap.size + 1 + 1 < w1.heap.size + 1 + 1 := by omega
  have X3l3 : w.heap.size + 1 + 1 < w1.heap.size + 1 + 1 + 1 := by omega
  have X30 := X3.cell 0 _ rfl
  have X31 := X3.cell 1 _ rfl
  go_wp2_with fail
  (with_reducible refine (Zero_at (IsBits.of hD) _).mono ?_)
  rintro e w2 ⟨rfl, hb⟩
  have X1' : Box w2 (w.heap.size) #[.int .u64 (limb 0 A), .int .u64 (limb 1 A), .int .u64 (limb 2 A), .int .u64 (limb 3 A)] := Box.call hb (by repeat (first | with_reducible assumption | with_reducible apply Box.set10 | with_reducible apply Box.set20 | with_reducible apply Box.set21 | with_reducible apply Box.set40 | with_reducible apply Box.set41 | with_reducible apply Box.set42 | with_reducible apply Box.set43 | with_reducible apply Box.set50 | with_reducible apply Box.set51 | with_reducible apply Box.set52 | with_reducible apply Box.set53 | with_reducible apply Box.set54 | with_reducible apply Box.drew | (with_reducible apply Box.newAt; (try simp only [World.size_alloc, World.size_setCell, World.size_drew]); done) | with_reducible apply Box.alloc | (with_reducible apply Box.other; case hne => ((try simp only [World.size_alloc, World.size_setCell, World.size_drew]); omega))))
  have X2' : Box w2 (w.heap.size + 1) #[.int .u64 (limb 1 B), .int .u64 (limb 0 B)] := Box.call hb (by repeat (first | with_reducible assumption | with_reducible apply Box.set10 | with_reducible apply Box.set20 | with_reducible apply Box.set21 | with_reducible apply Box.set40 | with_reducible apply Box.set41 | with_reducible apply Box.set42 | with_reducible apply Box.set43 | with_reducible apply Box.set50 | with_reducible apply Box.set51 | with_reducible apply Box.set52 | with_reducible apply Box.set53 | with_reducible apply Box.set54 | with_reducible apply Box.drew | (with_reducible apply Box.newAt; (try simp only [World.size_alloc, World.size_setCell, World.size_drew]); done) | with_reducible apply Box.alloc | (with_reducible apply Box.other; case hne => ((try simp only [World.size_alloc, World.size_setCell, World.size_drew]); omega))))
  have X3' : Box w2 (w.heap.size + 1 + 1) #[.int .u64 (limb 1 D), .int .u64 (limb 0 D)] := Box.call hb (by repeat (first | with_reducible assumption | with_reducible apply Box.set10 | with_reducible apply Box.set20 | with_reducible apply Box.set21 | with_reducible apply Box.set40 | with_reducible apply Box.set41 | with_reducible apply Box.set42 | with_reducible apply Box.set43 | with_reducible apply Box.set50 | with_reducible apply Box.set51 | with_reducible apply Box.set52 | with_reducible apply Box.set53 | with_reducible apply Box.set54 | with_reducible apply Box.drew | (with_reducible apply Box.newAt; (try simp only [World.size_alloc, World.size_setCell, World.size_drew]); done) | with_reducible apply Box.alloc | (with_reducible apply Box.other; case hne => ((try simp only [World.size_alloc, World.size_setCell, World.size_drew]); omega))))
  have X4' : Box w2 (w1.heap.size) #[.int .u64 (limb 0 (divN A D)), .int .u64 (limb 1 (divN A D)), .int .u64 (limb 2 (divN A D)), .int .u64 (limb 3 (divN A D))] := Box.call hb (by repeat (first | with_reducible assumption | with_reducible apply Box.set10 | with_reducible apply Box.set20 | with_reducible apply Box.set21 | with_reducible apply Box.set40 | with_reducible apply Box.set41 | with_reducible apply Box.set42 | with_reducible apply Box.set43 | with_reducible apply Box.set50 | with_reducible apply Box.set51 | with_reducible apply Box.set52 | with_reducible apply Box.set53 | with_reducible apply Box.set54 | with_reducible apply Box.drew | (with_reducible apply Box.newAt; (try simp only [World.size_alloc, World.size_setCell, World.size_drew]); done) | with_reducible apply Box.alloc | (with_reducible apply Box.other; case hne => ((try simp only [World.size_alloc, World.size_setCell, World.size_drew]); omega))))
  have X5' : Box w2 (w1.heap.size + 1) #[.int .u64 (limb 1 (modN A D)), .int .u64 (limb 0 (modN A D))] := Box.call hb (by repeat (first | with_reducible assumption | with_reducible apply Box.set10 | with_reducible apply Box.set20 | with_reducible apply Box.set21 | with_reducible apply Box.set40 | with_reducible apply Box.set41 | with_reducible apply Box.set42 | with_reducible apply Box.set43 | with_reducible apply Box.set50 | with_reducible apply Box.set51 | with_reducible apply Box.set52 | with_reducible apply Box.set53 | with_reducible apply Box.set54 | with_reducible apply Box.drew | (with_reducible apply Box.newAt; (try simp only [World.size_alloc, World.size_setCell, World.size_drew]); done) | with_reducible apply Box.alloc | (with_reducible apply Box.other; case hne => ((try simp only [World.size_alloc, World.size_setCell, World.size_drew]); omega))))
  have hk' : Kept w.heap.size w w2 := Kept.step (by repeat (first | with_reducible exact hk | with_reducible exact Kept.refl _ | with_reducible refine Kept.alloc ?_ _ | with_reducible refine Kept.drew ?_ | with_reducible refine Kept.setCell ?_ (by simp only [World.size_alloc, World.size_setCell, World.size_drew]; omega) _)) hb
  clear hk hb
  clear X1 X1l1 X1l2 X1l3 X1f X10 X11 X12 X13
  clear X2 X2l1 X2l2 X2l3 X2f X20 X21
  clear X3 X3l1 X3l2 X3l3 X3f X30 X31
  have X1 := X1'
  clear X1'
  have X2 := X2'
  clear X2'
  have X3 := X3'
  clear X3'
  have X4 := X4'
  clear X4'
  have X5 := X5'
  clear X5'
  have hk := hk'
  clear hk'
  have hz_w2 := hk.size
  have X1l := X1.lt
  have X1f := X1.free
  have X1l1 : w.heap.size < w2.heap.size + 1 := by omega
  have X1l2 : w.heap.size < w2.heap.size + 1 + 1 := by omega
  have X1l3 : w.heap.size < w2.heap.size + 1 + 1 + 1 := by omega
  have X10 := X1.cell 0 _ rfl
  have X11 := X1.cell 1 _ rfl
  have X12 := X1.cell 2 _ rfl
  have X13 := X1.cell 3 _ rfl
  have X2l := X2.lt
  have X2f := X2.free
  have X2l1 : w.heap.size + 1 < w2.heap.size + 1 := by omega
  have X2l2 : w.heap.size + 1 < w2.heap.size + 1 + 1 := by omega
  have X2l3 : w.heap.size + 1 < w2.heap.size + 1 + 1 + 1 := by omega
  have X20 := X2.cell 0 _ rfl
  have X21 := X2.cell 1 _ rfl
  have X3l := X3.lt
  have X3f := X3.free
  have X3l1 : w.heap.size + 1 + 1 < w2.heap.size + 1 := by omega
  have X3l2 : w.heap.size + 1 + 1 < w2.heap.size + 1 + 1 := by omega
  have X3l3 : w.heap.size + 1 + 1 < w2.heap.size + 1 + 1 + 1 := by omega
  have X30 := X3.cell 0 _ rfl
  have X31 := X3.cell 1 _ rfl
  have X4l := X4.lt
  have X4f := X4.free
  have X4l1 : w1.heap.size < w2.heap.size + 1 := by omega
  have X4l2 : w1.heap.size < w2.heap.size + 1 + 1 := by omega
  have X4l3 : w1.heap.size < w2.heap.size + 1 + 1 + 1 := by omega
  have X40 := X4.cell 0 _ rfl
  have X41 := X4.cell 1 _ rfl
  have X42 := X4.cell 2 _ rfl
  have X43 := X4.cell 3 _ rfl
  have X5l := X5.lt
  have X5f := X5.free
  have X5l1 : w1.heap.size + 1 < w2.heap.size + 1 := by omega
  have X5l2 : w1.heap.size + 1 < w2.heap.size + 1 + 1 := by omega
  have X5l3 : w1.heap.size + 1 < w2.heap.size + 1 + 1 + 1 := by omega
  have X50 := X5.cell 0 _ rfl
  have X51 := X5.cell 1 _ rfl
  go_wp2
  refine wp_region_g 5 (fun W' => Kept w.heap.size w W' ∧ w2.heap.size ≤ W'.heap.size ∧ Box W' (w.heap.size) #[.int .u64 (limb 0 A), .int .u64 (limb 1 A), .int .u64 (limb 2 A), .int .u64 (limb 3 A)] ∧ Box W' (w.heap.size + 1) #[.int .u64 (limb 1 B), .int .u64 (limb 0 B)] ∧ Box W' (w.heap.size + 1 + 1) #[.int .u64 (limb 1 D), .int .u64 (limb 0 D)] ∧ Box W' (w1.heap.size) #[.int .u64 (limb 0 (divN A D)), .int .u64 (limb 1 (divN A D)), .int .u64 (limb 2 (divN A D)), .int .u64 (limb 3 (divN A D))] ∧ Box W' (w1.heap.size + 1) #[.int .u64 (limb 1 (modN A D)), .int .u64 (limb 0 (modN A D))]) (fun W' => Kept w.heap.size w W' ∧ w2.heap.size ≤ W'.heap.size ∧ Box W' (w.heap.size) #[.int .u64 (limb 0 A), .int .u64 (limb 1 A), .int .u64 (limb 2 A), .int .u64 (limb 3 A)] ∧ Box W' (w.heap.size + 1) #[.int .u64 (limb 1 B), .int .u64 (limb 0 B)] ∧ Box W' (w.heap.size + 1 + 1) #[.int .u64 (limb 1 D), .int .u64 (limb 0 D)] ∧ Box W' (w1.heap.size) #[.int .u64 (limb 0 (divN A D)), .int .u64 (limb 1 (divN A D)), .int .u64 (limb 2 (divN A D)), .int .u64 (limb 3 (divN A D))] ∧ Box W' (w1.heap.size + 1) #[.int .u64 (limb 1 (modN A D)), .int .u64 (limb 0 (modN A D))]) 1000 (w2.heap.size) [.known (wideV (divN A D)), .known (bitsV (loN (divN A D))), .known (bitsV D), .known (wideV (mulN (loN (divN A D)) D)), .var #[.int .u64 0, .int .u64 0, .int .u64 0, .int .u64 0] 1000 [.int .u64 0, .int .u64 0, .int .u64 0, .int .u64 0]] (by kernel_rfl) (by kernel_rfl) (fun W W' h hb => ⟨h.1.step hb, Nat.le_trans (h.2.1) hb.size, Box.call hb (h.2.2.1), Box.call hb (h.2.2.2.1), Box.call hb (h.2.2.2.2.1), Box.call hb (h.2.2.2.2.2.1), Box.call hb (h.2.2.2.2.2.2)⟩) (fun W W' h hb => ⟨h.1.step hb, Nat.le_trans (h.2.1) hb.size, Box.call hb (h.2.2.1), Box.call hb (h.2.2.2.1), Box.call hb (h.2.2.2.2.1), Box.call hb (h.2.2.2.2.2.1), Box.call hb (h.2.2.2.2.2.2)⟩) (no_out (of_decide_eq_true (by kernel_rfl))) (.inl (by kernel_rfl)) (.inl (by kernel_rfl)) (fun _ h => h.2.1) (fun _ h => h.2.1) (⟨(by repeat (first | with_reducible exact hk | with_reducible exact Kept.refl _ | with_reducible refine Kept.alloc ?_ _ | with_reducible refine Kept.drew ?_ | with_reducible refine Kept.setCell ?_ (by simp only [World.size_alloc, World.size_setCell, World.size_drew]; omega) _)), (by (try simp only [World.size_alloc, World.size_setCell, World.size_drew]); omega), (by repeat (first | with_reducible assumption | with_reducible apply Box.set10 | with_reducible apply Box.set20 | with_reducible apply Box.set21 | with_reducible apply Box.set40 | with_reducible apply Box.set41 | with_reducible apply Box.set42 | with_reducible apply Box.set43 | with_reducible apply Box.set50 | with_reducible apply Box.set51 | with_reducible apply Box.set52 | with_reducible apply Box.set53 | with_reducible apply Box.set54 | with_reducible apply Box.drew | (with_reducible apply Box.newAt; (try simp only [World.size_alloc, World.size_setCell, World.size_drew]); done) | with_reducible apply Box.alloc | (with_reducible apply Box.other; case hne => ((try simp only [World.size_alloc, World.size_setCell, World.size_drew]); omega)))), (by repeat (first | with_reducible assumption | with_reducible apply Box.set10 | with_reducible apply Box.set20 | with_reducible apply Box.set21 | with_reducible apply Box.set40 | with_reducible apply Box.set41 | with_reducible apply Box.set42 | with_reducible apply Box.set43 | with_reducible apply Box.set50 | with_reducible apply Box.set51 | with_reducible apply Box.set52 | with_reducible apply Box.set53 | with_reducible apply Box.set54 | with_reducible apply Box.drew | (with_reducible apply Box.newAt; (try simp only [World.size_alloc, World.size_setCell, World.size_drew]); done) | with_reducible apply Box.alloc | (with_reducible apply Box.other; case hne => ((try simp only [World.size_alloc, World.size_setCell, World.size_drew]); omega)))), (by repeat (first | with_reducible assumption | with_reducible apply Box.set10 | with_reducible apply Box.set20 | with_reducible apply Box.set21 | with_reducible apply Box.set40 | with_reducible apply Box.set41 | with_reducible apply Box.set42 | with_reducible apply Box.set43 | with_reducible apply Box.set50 | with_reducible apply Box.set51 | with_reducible apply Box.set52 | with_reducible apply Box.set53 | with_reducible apply Box.set54 | with_reducible apply Box.drew | (with_reducible apply Box.newAt; (try simp only [World.size_alloc, World.size_setCell, World.size_drew]); done) | with_reducible apply Box.alloc | (with_reducible apply Box.other; case hne => ((try simp only [World.size_alloc, World.size_setCell, World.size_drew]); omega)))), (by repeat (first | with_reducible assumption | with_reducible apply Box.set10 | with_reducible apply Box.set20 | with_reducible apply Box.set21 | with_reducible apply Box.set40 | with_reducible apply Box.set41 | with_reducible apply Box.set42 | with_reducible apply Box.set43 | with_reducible apply Box.set50 | with_reducible apply Box.set51 | with_reducible apply Box.set52 | with_reducible apply Box.set53 | with_reducible apply Box.set54 | with_reducible apply Box.drew | (with_reducible apply Box.newAt; (try simp only [World.size_alloc, World.size_setCell, World.size_drew]); done) | with_reducible apply Box.alloc | (with_reducible apply Box.other; case hne => ((try simp only [World.size_alloc, World.size_setCell, World.size_drew]); omega)))), (by repeat (first | with_reducible assumption | with_reducible apply Box.set10 | with_reducible apply Box.set20 | with_reducible apply Box.set21 | with_reducible apply Box.set40 | with_reducible apply Box.set41 | with_reducible apply Box.set42 | with_reducible apply Box.set43 | with_reducible apply Box.set50 | with_reducible apply Box.set51 | with_reducible apply Box.set52 | with_reducible apply Box.set53 | with_reducible apply Box.set54 | with_reducible apply Box.drew | (with_reducible apply Box.newAt; (try simp only [World.size_alloc, World.size_setCell, World.size_drew]); done) | with_reducible apply Box.alloc | (with_reducible apply Box.other; case hne => ((try simp only [World.size_alloc, World.size_setCell, World.size_drew]); omega))))⟩) ?_
  clear hk
  clear X1 X1l1 X1l2 X1l3 X1f X10 X11 X12 X13
  clear X2 X2l1 X2l2 X2l3 X2f X20 X21
  clear X3 X3l1 X3l2 X3l3 X3f X30 X31
  clear X4 X4l1 X4l2 X4l3 X4f X40 X41 X42 X43
  clear X5 X5l1 X5l2 X5l3 X5f X50 X51
  intro ρ
  simp only [List.take_succ_cons, List.take_zero, List.drop_succ_cons, List.drop_zero]
  refine ⟨?_, ?_⟩
  · as_aux_lemma =>
    intro y_ hS_ hD
    have hS := hS_ (by rfl)
    have Q := (hS.2.2.2.2.2.1).cell
    have q0 := Q 0 _ rfl
    have q1 := Q 1 _ rfl
    have q2 := Q 2 _ rfl
    have q3 := Q 3 _ rfl
    clear Q hS hS_ hD
    refine s_gen (V := wideV (divN A D)) [.pointer (some ⟨w1.heap.size, 0, none⟩)] (by kernel_rfl) (by kernel_rfl) (by kernel_rfl) ?_
    intro r_ hr_
    have o0_ : r_ (.tmp 7) = .pointer (some ⟨w1.heap.size, 0, none⟩) := op_at hr_ 0 (by kernel_rfl) (by kernel_rfl)
    clear hr_
    go_simp; first | done | with_reducible rfl
  simp only [Act.put, planVG, List.setIfInBounds_toArray, List.set_cons_zero, List.set_cons_succ, List.getElem?_cons_zero, List.getElem?_cons_succ]
  refine ⟨?_, ?_⟩
  · as_aux_lemma =>
    intro y_ hS_ hD
    try clear hS
    clear hS_ hD
    refine s_gcall (V := bitsV (loN (divN A D))) [.func (.func 50) #[] #[], wideV (divN A D)] ?_ ?_ (by kernel_rfl) (by kernel_rfl) (by kernel_rfl) ?_ ?_
    rotate_left 2
    · intro r_ hr_
      have o0_ : r_ (.func 50) = .func (.func 50) #[] #[] := op_at hr_ 0 (by kernel_rfl) (by kernel_rfl)
      have o1_ : r_ (.tmp 41) = wideV (divN A D) := op_at hr_ 1 (by kernel_rfl) (by kernel_rfl)
      clear hr_
      go_simp; first | done | with_reducible rfl | (constructor <;> with_reducible rfl)
    · refine Low_at (IsWide.of (div_w (IsWide.of hA).w _)) _
  simp only [Act.put, planVG, List.setIfInBounds_toArray, List.set_cons_zero, List.set_cons_succ, List.getElem?_cons_zero, List.getElem?_cons_succ]
  refine ⟨?_, ?_⟩
  · as_aux_lemma =>
    intro y_ hS_ hD
    have hS := hS_ (by rfl)
    have Q := (hS.2.2.2.2.1).cell
    have q0 := Q 0 _ rfl
    have q1 := Q 1 _ rfl
    clear Q hS hS_ hD
    refine s_gen (V := bitsV D) [.pointer (some ⟨w.heap.size + 1 + 1, 0, none⟩)] (by kernel_rfl) (by kernel_rfl) (by kernel_rfl) ?_
    intro r_ hr_
    have o0_ : r_ (.tmp 5) = .pointer (some ⟨w.heap.size + 1 + 1, 0, none⟩) := op_at hr_ 0 (by kernel_rfl) (by kernel_rfl)
    clear hr_
    go_simp; first | done | with_reducible rfl
  simp only [Act.put, planVG, List.setIfInBounds_toArray, List.set_cons_zero, List.set_cons_succ, List.getElem?_cons_zero, List.getElem?_cons_succ]
  refine ⟨?_, ?_⟩
  · as_aux_lemma =>
    intro y_ hS_ hD
    try clear hS
    clear hS_ hD
    refine s_gcall (V := wideV (mulN (loN (divN A D)) D)) [.func (.func 49) #[] #[], bitsV (loN (divN A D)), bitsV D] ?_ ?_ (by kernel_rfl) (by kernel_rfl) (by kernel_rfl) ?_ ?_
    rotate_left 2
    · intro r_ hr_
      have o0_ : r_ (.func 49) = .func (.func 49) #[] #[] := op_at hr_ 0 (by kernel_rfl) (by kernel_rfl)
      have o1_ : r_ (.tmp 42) = bitsV (loN (divN A D)) := op_at hr_ 1 (by kernel_rfl) (by kernel_rfl)
      have o2_ : r_ (.tmp 43) = bitsV D := op_at hr_ 2 (by kernel_rfl) (by kernel_rfl)
      clear hr_
      go_simp; first | done | with_reducible rfl | (constructor <;> with_reducible rfl)
    · refine MulW_at (IsBits.of (lo_w _)) (IsBits.of hD) _
  simp only [Act.put, planVG, List.setIfInBounds_toArray, List.set_cons_zero, List.set_cons_succ, List.getElem?_cons_zero, List.getElem?_cons_succ]
  refine ⟨?_, ?_⟩
  · as_aux_lemma =>
    intro y_ hS_ hD
    clear hS_ hD
    refine s_alloc (by rfl) (by rfl) ?_
    simp only [allocTy]
    go_simp; first | done | with_reducible rfl | rfl
  simp only [Act.put, planVG, List.setIfInBounds_toArray, List.set_cons_zero, List.set_cons_succ, List.getElem?_cons_zero, List.getElem?_cons_succ]
  as_aux_lemma =>
    intro w3 hS hF hD_
    change wpList _ _ _ _ _ _
    replace hS := sg_no (by decide) hS
    obtain ⟨hk, hZ3, X1, X2, X3, X4, X5⟩ := hS
    obtain ⟨v4_4, e_v4_4, hv4_4, Bv4_4⟩ : ∃ b, ρ 4 = .pointer (some ⟨b, 0, none⟩) ∧ w2.heap.size ≤ b ∧ Box w3 b #[.int .u64 0, .int .u64 0, .int .u64 0, .int .u64 0] := by
      obtain ⟨b, h1, h2, h3⟩ := hF 4 (by decide)
      exact ⟨b, h1, h2, h3.lt, h3.cell, h3.free⟩
    clear hF hD_
    simp only [e_v4_4]
    clear e_v4_4
    clear ρ
    have hz_w3 := hk.size
    have X1l := X1.lt
    have X1f := X1.free
    have X1l1 : w.heap.size < w3.heap.size + 1 := by omega
    have X1l2 : w.heap.size < w3.heap.size + 1 + 1 := by omega
    have X1l3 : w.heap.size < w3.heap.size + 1 + 1 + 1 := by omega
    have X10 := X1.cell 0 _ rfl
    have X11 := X1.cell 1 _ rfl
    have X12 := X1.cell 2 _ rfl
    have X13 := X1.cell 3 _ rfl
    have X2l := X2.lt
    have X2f := X2.free
    have X2l1 : w.heap.size + 1 < w3.heap.size + 1 := by omega
    have X2l2 : w.heap.size + 1 < w3.heap.size + 1 + 1 := by omega
    have X2l3 : w.heap.size + 1 < w3.heap.size + 1 + 1 + 1 := by omega
    have X20 := X2.cell 0 _ rfl
    have X21 := X2.cell 1 _ rfl
    have X3l := X3.lt
    have X3f := X3.free
    have X3l1 : w.heap.size + 1 + 1 < w3.heap.size + 1 := by omega
    have X3l2 : w.heap.size + 1 + 1 < w3.heap.size + 1 + 1 := by omega
    have X3l3 : w.heap.size + 1 + 1 < w3.heap.size + 1 + 1 + 1 := by omega
    have X30 := X3.cell 0 _ rfl
    have X31 := X3.cell 1 _ rfl
    have X4l := X4.lt
    have X4f := X4.free
    have X4l1 : w1.heap.size < w3.heap.size + 1 := by omega
    have X4l2 : w1.heap.size < w3.heap.size + 1 + 1 := by omega
    have X4l3 : w1.heap.size < w3.heap.size + 1 + 1 + 1 := by omega
    have X40 := X4.cell 0 _ rfl
    have X41 := X4.cell 1 _ rfl
    have X42 := X4.cell 2 _ rfl
    have X43 := X4.cell 3 _ rfl
    have X5l := X5.lt
    have X5f := X5.free
    have X5l1 : w1.heap.size + 1 < w3.heap.size + 1 := by omega
    have X5l2 : w1.heap.size + 1 < w3.heap.size + 1 + 1 := by omega
    have X5l3 : w1.heap.size + 1 < w3.heap.size + 1 + 1 + 1 := by omega
    have X50 := X5.cell 0 _ rfl
    have X51 := X5.cell 1 _ rfl
    have Bv4_4l := Bv4_4.lt
    have Bv4_4f := Bv4_4.free
    have Bv4_4l1 : v4_4 < w3.heap.size + 1 := by omega
    have Bv4_4l2 : v4_4 < w3.heap.size + 1 + 1 := by omega
    have Bv4_4l3 : v4_4 < w3.heap.size + 1 + 1 + 1 := by omega
    have Bv4_40 := Bv4_4.cell 0 _ rfl
    have Bv4_41 := Bv4_4.cell 1 _ rfl
    have Bv4_42 := Bv4_4.cell 2 _ rfl
    have Bv4_43 := Bv4_4.cell 3 _ rfl
    go_wp2
    refine wp_region_g 5 (fun W' => Kept w.heap.size w W' ∧ w3.heap.size ≤ W'.heap.size ∧ Box W' (w.heap.size) #[.int .u64 (limb 0 A), .int .u64 (limb 1 A), .int .u64 (limb 2 A), .int .u64 (limb 3 A)] ∧ Box W' (w.heap.size + 1) #[.int .u64 (limb 1 B), .int .u64 (limb 0 B)] ∧ Box W' (w.heap.size + 1 + 1) #[.int .u64 (limb 1 D), .int .u64 (limb 0 D)] ∧ Box W' (w1.heap.size) #[.int .u64 (limb 0 (divN A D)), .int .u64 (limb 1 (divN A D)), .int .u64 (limb 2 (divN A D)), .int .u64 (limb 3 (divN A D))] ∧ Box W' (w1.heap.size + 1) #[.int .u64 (limb 1 (modN A D)), .int .u64 (limb 0 (modN A D))] ∧ Box W' (v4_4) #[.int .u64 (limb 0 (mulN (loN (divN A D)) D)), .int .u64 (limb 1 (mulN (loN (divN A D)) D)), .int .u64 (limb 2 (mulN (loN (divN A D)) D)), .int .u64 (limb 3 (mulN (loN (divN A D)) D))]) (fun W' => Kept w.heap.size w W' ∧ w3.heap.size ≤ W'.heap.size ∧ Box W' (w.heap.size) #[.int .u64 (limb 0 A), .int .u64 (limb 1 A), .int .u64 (limb 2 A), .int .u64 (limb 3 A)] ∧ Box W' (w.heap.size + 1) #[.int .u64 (limb 1 B), .int .u64 (limb 0 B)] ∧ Box W' (w.heap.size + 1 + 1) #[.int .u64 (limb 1 D), .int .u64 (limb 0 D)] ∧ Box W' (w1.heap.size) #[.int .u64 (limb 0 (divN A D)), .int .u64 (limb 1 (divN A D)), .int .u64 (limb 2 (divN A D)), .int .u64 (limb 3 (divN A D))] ∧ Box W' (w1.heap.size + 1) #[.int .u64 (limb 1 (modN A D)), .int .u64 (limb 0 (modN A D))] ∧ Box W' (v4_4) #[.int .u64 (limb 0 (mulN (loN (divN A D)) D)), .int .u64 (limb 1 (mulN (loN (divN A D)) D)), .int .u64 (limb 2 (mulN (loN (divN A D)) D)), .int .u64 (limb 3 (mulN (loN (divN A D)) D))]) 1000 (w3.heap.size) [.known (wideV (divN A D)), .known (bitsV (hiN (divN A D))), .known (bitsV D), .known (wideV (mulN (hiN (divN A D)) D)), .var #[.int .u64 0, .int .u64 0, .int .u64 0, .int .u64 0] 1000 [.int .u64 0, .int .u64 0, .int .u64 0, .int .u64 0]] (by kernel_rfl) (by kernel_rfl) (fun W W' h hb => ⟨h.1.step hb, Nat.le_trans (h.2.1) hb.size, Box.call hb (h.2.2.1), Box.call hb (h.2.2.2.1), Box.call hb (h.2.2.2.2.1), Box.call hb (h.2.2.2.2.2.1), Box.call hb (h.2.2.2.2.2.2.1), Box.call hb (h.2.2.2.2.2.2.2)⟩) (fun W W' h hb => ⟨h.1.step hb, Nat.le_trans (h.2.1) hb.size, Box.call hb (h.2.2.1), Box.call hb (h.2.2.2.1), Box.call hb (h.2.2.2.2.1), Box.call hb (h.2.2.2.2.2.1), Box.call hb (h.2.2.2.2.2.2.1), Box.call hb (h.2.2.2.2.2.2.2)⟩) (no_out (of_decide_eq_true (by kernel_rfl))) (.inl (by kernel_rfl)) (.inl (by kernel_rfl)) (fun _ h => h.2.1) (fun _ h => h.2.1) (⟨(by repeat (first | with_reducible exact hk | with_reducible exact Kept.refl _ | with_reducible refine Kept.alloc ?_ _ | with_reducible refine Kept.drew ?_ | with_reducible refine Kept.setCell ?_ (by simp only [World.size_alloc, World.size_setCell, World.size_drew]; omega) _)), (by (try simp only [World.size_alloc, World.size_setCell, World.size_drew]); omega), (by repeat (first | with_reducible assumption | with_reducible apply Box.set10 | with_reducible apply Box.set20 | with_reducible apply Box.set21 | with_reducible apply Box.set40 | with_reducible apply Box.set41 | with_reducible apply Box.set42 | with_reducible apply Box.set43 | with_reducible apply Box.set50 | with_reducible apply Box.set51 | with_reducible apply Box.set52 | with_reducible apply Box.set53 | with_reducible apply Box.set54 | with_reducible apply Box.drew | (with_reducible apply Box.newAt; (try simp only [World.size_alloc, World.size_setCell, World.size_drew]); done) | with_reducible apply Box.alloc | (with_reducible apply Box.other; case hne => ((try simp only [World.size_alloc, World.size_setCell, World.size_drew]); omega)))), (by repeat (first | with_reducible assumption | with_reducible apply Box.set10 | with_reducible apply Box.set20 | with_reducible apply Box.set21 | with_reducible apply Box.set40 | with_reducible apply Box.set41 | with_reducible apply Box.set42 | with_reducible apply Box.set43 | with_reducible apply Box.set50 | with_reducible apply Box.set51 | with_reducible apply Box.set52 | with_reducible apply Box.set53 | with_reducible apply Box.set54 | with_reducible apply Box.drew | (with_reducible apply Box.newAt; (try simp only [World.size_alloc, World.size_setCell, World.size_drew]); done) | with_reducible apply Box.alloc | (with_reducible apply Box.other; case hne => ((try simp only [World.size_alloc, World.size_setCell, World.size_drew]); omega)))), (by repeat (first | with_reducible assumption | with_reducible apply Box.set10 | with_reducible apply Box.set20 | with_reducible apply Box.set21 | with_reducible apply Box.set40 | with_reducible apply Box.set41 | with_reducible apply Box.set42 | with_reducible apply Box.set43 | with_reducible apply Box.set50 | with_reducible apply Box.set51 | with_reducible apply Box.set52 | with_reducible apply Box.set53 | with_reducible apply Box.set54 | with_reducible apply Box.drew | (with_reducible apply Box.newAt; (try simp only [World.size_alloc, World.size_setCell, World.size_drew]); done) | with_reducible apply Box.alloc | (with_reducible apply Box.other; case hne => ((try simp only [World.size_alloc, World.size_setCell, World.size_drew]); omega)))), (by repeat (first | with_reducible assumption | with_reducible apply Box.set10 | with_reducible apply Box.set20 | with_reducible apply Box.set21 | with_reducible apply Box.set40 | with_reducible apply Box.set41 | with_reducible apply Box.set42 | with_reducible apply Box.set43 | with_reducible apply Box.set50 | with_reducible apply Box.set51 | with_reducible apply Box.set52 | with_reducible apply Box.set53 | with_reducible apply Box.set54 | with_reducible apply Box.drew | (with_reducible apply Box.newAt; (try simp only [World.size_alloc, World.size_setCell, World.size_drew]); done) | with_reducible apply Box.alloc | (with_reducible apply Box.other; case hne => ((try simp only [World.size_alloc, World.size_setCell, World.size_drew]); omega)))), (by repeat (first | with_reducible assumption | with_reducible apply Box.set10 | with_reducible apply Box.set20 | with_reducible apply Box.set21 | with_reducible apply Box.set40 | with_reducible apply Box.set41 | with_reducible apply Box.set42 | with_reducible apply Box.set43 | with_reducible apply Box.set50 | with_reducible apply Box.set51 | with_reducible apply Box.set52 | with_reducible apply Box.set53 | with_reducible apply Box.set54 | with_reducible apply Box.drew | (with_reducible apply Box.newAt; (try simp only [World.size_alloc, World.size_setCell, World.size_drew]); done) | with_reducible apply Box.alloc | (with_reducible apply Box.other; case hne => ((try simp only [World.size_alloc, World.size_setCell, World.size_drew]); omega)))), (by repeat (first | with_reducible assumption | with_reducible apply Box.set10 | with_reducible apply Box.set20 | with_reducible apply Box.set21 | with_reducible apply Box.set40 | with_reducible apply Box.set41 | with_reducible apply Box.set42 | with_reducible apply Box.set43 | with_reducible apply Box.set50 | with_reducible apply Box.set51 | with_reducible apply Box.set52 | with_reducible apply Box.set53 | with_reducible apply Box.set54 | with_reducible apply Box.drew | (with_reducible apply Box.newAt; (try simp only [World.size_alloc, World.size_setCell, World.size_drew]); done) | with_reducible apply Box.alloc | (with_reducible apply Box.other; case hne => ((try simp only [World.size_alloc, World.size_setCell, World.size_drew]); omega))))⟩) ?_
    clear hk
    clear X1 X1l1 X1l2 X1l3 X1f X10 X11 X12 X13
    clear X2 X2l1 X2l2 X2l3 X2f X20 X21
    clear X3 X3l1 X3l2 X3l3 X3f X30 X31
    clear X4 X4l1 X4l2 X4l3 X4f X40 X41 X42 X43
    clear X5 X5l1 X5l2 X5l3 X5f X50 X51
    clear Bv4_4 Bv4_4l1 Bv4_4l2 Bv4_4l3 Bv4_4f Bv4_40 Bv4_41 Bv4_42 Bv4_43
    intro ρ
    simp only [List.take_succ_cons, List.take_zero, List.drop_succ_cons, List.drop_zero]
    refine ⟨?_, ?_⟩
    · as_aux_lemma =>
      intro y_ hS_ hD
      have hS := hS_ (by rfl)
      have Q := (hS.2.2.2.2.2.1).cell
      have q0 := Q 0 _ rfl
      have q1 := Q 1 _ rfl
      have q2 := Q 2 _ rfl
      have q3 := Q 3 _ rfl
      clear Q hS hS_ hD
      refine s_gen (V := wideV (divN A D)) [.pointer (some ⟨w1.heap.size, 0, none⟩)] (by kernel_rfl) (by kernel_rfl) (by kernel_rfl) ?_
      intro r_ hr_
      have o0_ : r_ (.tmp 7) = .pointer (some ⟨w1.heap.size, 0, none⟩) := op_at hr_ 0 (by kernel_rfl) (by kernel_rfl)
      clear hr_
      go_simp; first | done | with_reducible rfl
    simp only [Act.put, planVG, List.setIfInBounds_toArray, List.set_cons_zero, List.set_cons_succ, List.getElem?_cons_zero, List.getElem?_cons_succ]
    refine ⟨?_, ?_⟩
    · as_aux_lemma =>
      intro y_ hS_ hD
      try clear hS
      clear hS_ hD
      refine s_gcall (V := bitsV (hiN (divN A D))) [.func (.func 51) #[] #[], wideV (divN A D)] ?_ ?_ (by kernel_rfl) (by kernel_rfl) (by kernel_rfl) ?_ ?_
      rotate_left 2
      · intro r_ hr_
        have o0_ : r_ (.func 51) = .func (.func 51) #[] #[] := op_at hr_ 0 (by kernel_rfl) (by kernel_rfl)
        have o1_ : r_ (.tmp 45) = wideV (divN A D) := op_at hr_ 1 (by kernel_rfl) (by kernel_rfl)
        clear hr_
        go_simp; first | done | with_reducible rfl | (constructor <;> with_reducible rfl)
      · refine High_at (IsWide.of (div_w (IsWide.of hA).w _)) _
    simp only [Act.put, planVG, List.setIfInBounds_toArray, List.set_cons_zero, List.set_cons_succ, List.getElem?_cons_zero, List.getElem?_cons_succ]
    refine ⟨?_, ?_⟩
    · as_aux_lemma =>
      intro y_ hS_ hD
      have hS := hS_ (by rfl)
      have Q := (hS.2.2.2.2.1).cell
      have q0 := Q 0 _ rfl
      have q1 := Q 1 _ rfl
      clear Q hS hS_ hD
      refine s_gen (V := bitsV D) [.pointer (some ⟨w.heap.size + 1 + 1, 0, none⟩)] (by kernel_rfl) (by kernel_rfl) (by kernel_rfl) ?_
      intro r_ hr_
      have o0_ : r_ (.tmp 5) = .pointer (some ⟨w.heap.size + 1 + 1, 0, none⟩) := op_at hr_ 0 (by kernel_rfl) (by kernel_rfl)
      clear hr_
      go_simp; first | done | with_reducible rfl
    simp only [Act.put, planVG, List.setIfInBounds_toArray, List.set_cons_zero, List.set_cons_succ, List.getElem?_cons_zero, List.getElem?_cons_succ]
    refine ⟨?_, ?_⟩
    · as_aux_lemma =>
      intro y_ hS_ hD
      try clear hS
      clear hS_ hD
      refine s_gcall (V := wideV (mulN (hiN (divN A D)) D)) [.func (.func 49) #[] #[], bitsV (hiN (divN A D)), bitsV D] ?_ ?_ (by kernel_rfl) (by kernel_rfl) (by kernel_rfl) ?_ ?_
      rotate_left 2
      · intro r_ hr_
        have o0_ : r_ (.func 49) = .func (.func 49) #[] #[] := op_at hr_ 0 (by kernel_rfl) (by kernel_rfl)
        have o1_ : r_ (.tmp 46) = bitsV (hiN (divN A D)) := op_at hr_ 1 (by kernel_rfl) (by kernel_rfl)
        have o2_ : r_ (.tmp 47) = bitsV D := op_at hr_ 2 (by kernel_rfl) (by kernel_rfl)
        clear hr_
        go_simp; first | done | with_reducible rfl | (constructor <;> with_reducible rfl)
      · refine MulW_at (IsBits.of (hi_w (IsWide.of (div_w (IsWide.of hA).w _)).w)) (IsBits.of hD) _
    simp only [Act.put, planVG, List.setIfInBounds_toArray, List.set_cons_zero, List.set_cons_succ, List.getElem?_cons_zero, List.getElem?_cons_succ]
    refine ⟨?_, ?_⟩
    · as_aux_lemma =>
      intro y_ hS_ hD
      clear hS_ hD
      refine s_alloc (by rfl) (by rfl) ?_
      simp only [allocTy]
      go_simp; first | done | with_reducible rfl | rfl
    simp only [Act.put, planVG, List.setIfInBounds_toArray, List.set_cons_zero, List.set_cons_succ, List.getElem?_cons_zero, List.getElem?_cons_succ]
    as_aux_lemma =>
      intro w4 hS hF hD_
      change wpList _ _ _ _ _ _
      replace hS := sg_no (by decide) hS
      obtain ⟨hk, hZ4, X1, X2, X3, X4, X5, Bv4_4⟩ := hS
      obtain ⟨v5_4, e_v5_4, hv5_4, Bv5_4⟩ : ∃ b, ρ 4 = .pointer (some ⟨b, 0, none⟩) ∧ w3.heap.size ≤ b ∧ Box w4 b #[.int .u64 0, .int .u64 0, .int .u64 0, .int .u64 0] := by
        obtain ⟨b, h1, h2, h3⟩ := hF 4 (by decide)
        exact ⟨b, h1, h2, h3.lt, h3.cell, h3.free⟩
      clear hF hD_
      simp only [e_v5_4]
      clear e_v5_4
      clear ρ
      have hz_w4 := hk.size
      have X1l := X1.lt
      have X1f := X1.free
      have X1l1 : w.heap.size < w4.heap.size + 1 := by omega
      have X1l2 : w.heap.size < w4.heap.size + 1 + 1 := by omega
      have X1l3 : w.heap.size < w4.heap.size + 1 + 1 + 1 := by omega
      have X10 := X1.cell 0 _ rfl
      have X11 := X1.cell 1 _ rfl
      have X12 := X1.cell 2 _ rfl
      have X13 := X1.cell 3 _ rfl
      have X2l := X2.lt
      have X2f := X2.free
      have X2l1 : w.heap.size + 1 < w4.heap.size + 1 := by omega
      have X2l2 : w.heap.size + 1 < w4.heap.size + 1 + 1 := by omega
      have X2l3 : w.heap.size + 1 < w4.heap.size + 1 + 1 + 1 := by omega
      have X20 := X2.cell 0 _ rfl
      have X21 := X2.cell 1 _ rfl
      have X3l := X3.lt
      have X3f := X3.free
      have X3l1 : w.heap.size + 1 + 1 < w4.heap.size + 1 := by omega
      have X3l2 : w.heap.size + 1 + 1 < w4.heap.size + 1 + 1 := by omega
      have X3l3 : w.heap.size + 1 + 1 < w4.heap.size + 1 + 1 + 1 := by omega
      have X30 := X3.cell 0 _ rfl
      have X31 := X3.cell 1 _ rfl
      have X4l := X4.lt
      have X4f := X4.free
      have X4l1 : w1.heap.size < w4.heap.size + 1 := by omega
      have X4l2 : w1.heap.size < w4.heap.size + 1 + 1 := by omega
      have X4l3 : w1.heap.size < w4.heap.size + 1 + 1 + 1 := by omega
      have X40 := X4.cell 0 _ rfl
      have X41 := X4.cell 1 _ rfl
      have X42 := X4.cell 2 _ rfl
      have X43 := X4.cell 3 _ rfl
      have X5l := X5.lt
      have X5f := X5.free
      have X5l1 : w1.heap.size + 1 < w4.heap.size + 1 := by omega
      have X5l2 : w1.heap.size + 1 < w4.heap.size + 1 + 1 := by omega
      have X5l3 : w1.heap.size + 1 < w4.heap.size + 1 + 1 + 1 := by omega
      have X50 := X5.cell 0 _ rfl
      have X51 := X5.cell 1 _ rfl
      have Bv4_4l := Bv4_4.lt
      have Bv4_4f := Bv4_4.free
      have Bv4_4l1 : v4_4 < w4.heap.size + 1 := by omega
      have Bv4_4l2 : v4_4 < w4.heap.size + 1 + 1 := by omega
      have Bv4_4l3 : v4_4 < w4.heap.size + 1 + 1 + 1 := by omega
      have Bv4_40 := Bv4_4.cell 0 _ rfl
      have Bv4_41 := Bv4_4.cell 1 _ rfl
      have Bv4_42 := Bv4_4.cell 2 _ rfl
      have Bv4_43 := Bv4_4.cell 3 _ rfl
      have Bv5_4l := Bv5_4.lt
      have Bv5_4f := Bv5_4.free
      have Bv5_4l1 : v5_4 < w4.heap.size + 1 := by omega
      have Bv5_4l2 : v5_4 < w4.heap.size + 1 + 1 := by omega
      have Bv5_4l3 : v5_4 < w4.heap.size + 1 + 1 + 1 := by omega
      have Bv5_40 := Bv5_4.cell 0 _ rfl
      have Bv5_41 := Bv5_4.cell 1 _ rfl
      have Bv5_42 := Bv5_4.cell 2 _ rfl
      have Bv5_43 := Bv5_4.cell 3 _ rfl
      go_wp2
      refine wp_region_g 11 (fun W' => Kept w.heap.size w W' ∧ w4.heap.size ≤ W'.heap.size ∧ Box W' (w.heap.size) #[.int .u64 (limb 0 A), .int .u64 (limb 1 A), .int .u64 (limb 2 A), .int .u64 (limb 3 A)] ∧ Box W' (w.heap.size + 1) #[.int .u64 (limb 1 B), .int .u64 (limb 0 B)] ∧ Box W' (w.heap.size + 1 + 1) #[.int .u64 (limb 1 D), .int .u64 (limb 0 D)] ∧ Box W' (w1.heap.size + 1) #[.int .u64 (limb 1 (modN A D)), .int .u64 (limb 0 (modN A D))] ∧ Box W' (v4_4) #[.int .u64 (limb 0 (mulN (loN (divN A D)) D)), .int .u64 (limb 1 (mulN (loN (divN A D)) D)), .int .u64 (limb 2 (mulN (loN (divN A D)) D)), .int .u64 (limb 3 (mulN (loN (divN A D)) D))] ∧ Box W' (v5_4) #[.int .u64 (limb 0 (mulN (hiN (divN A D)) D)), .int .u64 (limb 1 (mulN (hiN (divN A D)) D)), .int .u64 (limb 2 (mulN (hiN (divN A D)) D)), .int .u64 (limb 3 (mulN (hiN (divN A D)) D))]) (fun W' => Kept w.heap.size w W' ∧ w4.heap.size ≤ W'.heap.size ∧ Box W' (w.heap.size) #[.int .u64 (limb 0 A), .int .u64 (limb 1 A), .int .u64 (limb 2 A), .int .u64 (limb 3 A)] ∧ Box W' (w.heap.size + 1) #[.int .u64 (limb 1 B), .int .u64 (limb 0 B)] ∧ Box W' (w.heap.size + 1 + 1) #[.int .u64 (limb 1 D), .int .u64 (limb 0 D)] ∧ Box W' (w1.heap.size + 1) #[.int .u64 (limb 1 (modN A D)), .int .u64 (limb 0 (modN A D))] ∧ Box W' (v4_4) #[.int .u64 (limb 0 (mulN (loN (divN A D)) D)), .int .u64 (limb 1 (mulN (loN (divN A D)) D)), .int .u64 (limb 2 (mulN (loN (divN A D)) D)), .int .u64 (limb 3 (mulN (loN (divN A D)) D))] ∧ Box W' (v5_4) #[.int .u64 (limb 0 (mulN (hiN (divN A D)) D)), .int .u64 (limb 1 (mulN (hiN (divN A D)) D)), .int .u64 (limb 2 (mulN (hiN (divN A D)) D)), .int .u64 (limb 3 (mulN (hiN (divN A D)) D))]) 1000 (w4.heap.size) [.known (wideV (mulN (loN (divN A D)) D)), .known (wideV (mulN (hiN (divN A D)) D)), .known (bitsV (loN (mulN (hiN (divN A D)) D))), .known (.agg #[.int .u64 0, .int .u64 0]), .known (wideV (joinN (loN (mulN (hiN (divN A D)) D)) (val2 0 0))), .known (.tuple #[wideV T, .bool false]), .known (.tuple #[wideV T, .bool false]), .known (wideV T), .known (.bool false), .var #[.int .u64 0, .int .u64 0, .int .u64 0, .int .u64 0] 10 [.int .u64 (limb 0 T), .int .u64 (limb 1 T), .int .u64 (limb 2 T), .int .u64 (limb 3 T)], .put 9] (by kernel_rfl) (by kernel_rfl) (fun W W' h hb => ⟨h.1.step hb, Nat.le_trans (h.2.1) hb.size, Box.call hb (h.2.2.1), Box.call hb (h.2.2.2.1), Box.call hb (h.2.2.2.2.1), Box.call hb (h.2.2.2.2.2.1), Box.call hb (h.2.2.2.2.2.2.1), Box.call hb (h.2.2.2.2.2.2.2)⟩) (fun W W' h hb => ⟨h.1.step hb, Nat.le_trans (h.2.1) hb.size, Box.call hb (h.2.2.1), Box.call hb (h.2.2.2.1), Box.call hb (h.2.2.2.2.1), Box.call hb (h.2.2.2.2.2.1), Box.call hb (h.2.2.2.2.2.2.1), Box.call hb (h.2.2.2.2.2.2.2)⟩) (no_out (of_decide_eq_true (by kernel_rfl))) (.inr (fun W' b i v hb h => ⟨h.1.setCell (p := ⟨b, i, none⟩) (by simp only []; omega) v, (by rw [World.size_setCell]; exact h.2.1), (h.2.2.1).other (by omega), (h.2.2.2.1).other (by omega), (h.2.2.2.2.1).other (by omega), (h.2.2.2.2.2.1).other (by omega), (h.2.2.2.2.2.2.1).other (by omega), (h.2.2.2.2.2.2.2).other (by omega)⟩)) (.inr (fun W' b i v hb h => ⟨h.1.setCell (p := ⟨b, i, none⟩) (by simp only []; omega) v, (by rw [World.size_setCell]; exact h.2.1), (h.2.2.1).other (by omega), (h.2.2.2.1).other (by omega), (h.2.2.2.2.1).other (by omega), (h.2.2.2.2.2.1).other (by omega), (h.2.2.2.2.2.2.1).other (by omega), (h.2.2.2.2.2.2.2).other (by omega)⟩)) (fun _ h => h.2.1) (fun _ h => h.2.1) (⟨(by repeat (first | with_reducible exact hk | with_reducible exact Kept.refl _ | with_reducible refine Kept.alloc ?_ _ | with_reducible refine Kept.drew ?_ | with_reducible refine Kept.setCell ?_ (by simp only [World.size_alloc, World.size_setCell, World.size_drew]; omega) _)), (by (try simp only [World.size_alloc, World.size_setCell, World.size_drew]); omega), (by repeat (first | with_reducible assumption | with_reducible apply Box.set10 | with_reducible apply Box.set20 | with_reducible apply Box.set21 | with_reducible apply Box.set40 | with_reducible apply Box.set41 | with_reducible apply Box.set42 | with_reducible apply Box.set43 | with_reducible apply Box.set50 | with_reducible apply Box.set51 | with_reducible apply Box.set52 | with_reducible apply Box.set53 | with_reducible apply Box.set54 | with_reducible apply Box.drew | (with_reducible apply Box.newAt; (try simp only [World.size_alloc, World.size_setCell, World.size_drew]); done) | with_reducible apply Box.alloc | (with_reducible apply Box.other; case hne => ((try simp only [World.size_alloc, World.size_setCell, World.size_drew]); omega)))), (by repeat (first | with_reducible assumption | with_reducible apply Box.set10 | with_reducible apply Box.set20 | with_reducible apply Box.set21 | with_reducible apply Box.set40 | with_reducible apply Box.set41 | with_reducible apply Box.set42 | with_reducible apply Box.set43 | with_reducible apply Box.set50 | with_reducible apply Box.set51 | with_reducible apply Box.set52 | with_reducible apply Box.set53 | with_reducible apply Box.set54 | with_reducible apply Box.drew | (with_reducible apply Box.newAt; (try simp only [World.size_alloc, World.size_setCell, World.size_drew]); done) | with_reducible apply Box.alloc | (with_reducible apply Box.other; case hne => ((try simp only [World.size_alloc, World.size_setCell, World.size_drew]); omega)))), (by repeat (first | with_reducible assumption | with_reducible apply Box.set10 | with_reducible apply Box.set20 | with_reducible apply Box.set21 | with_reducible apply Box.set40 | with_reducible apply Box.set41 | with_reducible apply Box.set42 | with_reducible apply Box.set43 | with_reducible apply Box.set50 | with_reducible apply Box.set51 | with_reducible apply Box.set52 | with_reducible apply Box.set53 | with_reducible apply Box.set54 | with_reducible apply Box.drew | (with_reducible apply Box.newAt; (try simp only [World.size_alloc, World.size_setCell, World.size_drew]); done) | with_reducible apply Box.alloc | (with_reducible apply Box.other; case hne => ((try simp only [World.size_alloc, World.size_setCell, World.size_drew]); omega)))), (by repeat (first | with_reducible assumption | with_reducible apply Box.set10 | with_reducible apply Box.set20 | with_reducible apply Box.set21 | with_reducible apply Box.set40 | with_reducible apply Box.set41 | with_reducible apply Box.set42 | with_reducible apply Box.set43 | with_reducible apply Box.set50 | with_reducible apply Box.set51 | with_reducible apply Box.set52 | with_reducible apply Box.set53 | with_reducible apply Box.set54 | with_reducible apply Box.drew | (with_reducible apply Box.newAt; (try simp only [World.size_alloc, World.size_setCell, World.size_drew]); done) | with_reducible apply Box.alloc | (with_reducible apply Box.other; case hne => ((try simp only [World.size_alloc, World.size_setCell, World.size_drew]); omega)))), (by repeat (first | with_reducible assumption | with_reducible apply Box.set10 | with_reducible apply Box.set20 | with_reducible apply Box.set21 | with_reducible apply Box.set40 | with_reducible apply Box.set41 | with_reducible apply Box.set42 | with_reducible apply Box.set43 | with_reducible apply Box.set50 | with_reducible apply Box.set51 | with_reducible apply Box.set52 | with_reducible apply Box.set53 | with_reducible apply Box.set54 | with_reducible apply Box.drew | (with_reducible apply Box.newAt; (try simp only [World.size_alloc, World.size_setCell, World.size_drew]); done) | with_reducible apply Box.alloc | (with_reducible apply Box.other; case hne => ((try simp only [World.size_alloc, World.size_setCell, World.size_drew]); omega)))), (by repeat (first | with_reducible assumption | with_reducible apply Box.set10 | with_reducible apply Box.set20 | with_reducible apply Box.set21 | with_reducible apply Box.set40 | with_reducible apply Box.set41 | with_reducible apply Box.set42 | with_reducible apply Box.set43 | with_reducible apply Box.set50 | with_reducible apply Box.set51 | with_reducible apply Box.set52 | with_reducible apply Box.set53 | with_reducible apply Box.set54 | with_reducible apply Box.drew | (with_reducible apply Box.newAt; (try simp only [World.size_alloc, World.size_setCell, World.size_drew]); done) | with_reducible apply Box.alloc | (with_reducible apply Box.other; case hne => ((try simp only [World.size_alloc, World.size_setCell, World.size_drew]); omega))))⟩) ?_
      clear hk
      clear X1 X1l1 X1l2 X1l3 X1f X10 X11 X12 X13
      clear X2 X2l1 X2l2 X2l3 X2f X20 X21
      clear X3 X3l1 X3l2 X3l3 X3f X30 X31
      clear X4 X4l1 X4l2 X4l3 X4f X40 X41 X42 X43
      clear X5 X5l1 X5l2 X5l3 X5f X50 X51
      clear Bv4_4 Bv4_4l1 Bv4_4l2 Bv4_4l3 Bv4_4f Bv4_40 Bv4_41 Bv4_42 Bv4_43
      clear Bv5_4 Bv5_4l1 Bv5_4l2 Bv5_4l3 Bv5_4f Bv5_40 Bv5_41 Bv5_42 Bv5_43
      intro ρ
      simp only [List.take_succ_cons, List.take_zero, List.drop_succ_cons, List.drop_zero]
      refine ⟨?_, ?_⟩
      · as_aux_lemma =>
        intro y_ hS_ hD
        have hS := hS_ (by rfl)
        have Q := (hS.2.2.2.2.2.2.1).cell
        have q0 := Q 0 _ rfl
        have q1 := Q 1 _ rfl
        have q2 := Q 2 _ rfl
        have q3 := Q 3 _ rfl
        clear Q hS hS_ hD
        refine s_gen (V := wideV (mulN (loN (divN A D)) D)) [.pointer (some ⟨v4_4, 0, none⟩)] (by kernel_rfl) (by kernel_rfl) (by kernel_rfl) ?_
        intro r_ hr_
        have o0_ : r_ (.tmp 10) = .pointer (some ⟨v4_4, 0, none⟩) := op_at hr_ 0 (by kernel_rfl) (by kernel_rfl)
        clear hr_
        go_simp; first | done | with_reducible rfl
      simp only [Act.put, planVG, List.setIfInBounds_toArray, List.set_cons_zero, List.set_cons_succ, List.getElem?_cons_zero, List.getElem?_cons_succ]
      refine ⟨?_, ?_⟩
      · as_aux_lemma =>
        intro y_ hS_ hD
        have hS := hS_ (by rfl)
        have Q := (hS.2.2.2.2.2.2.2).cell
        have q0 := Q 0 _ rfl
        have q1 := Q 1 _ rfl
        have q2 := Q 2 _ rfl
        have q3 := Q 3 _ rfl
        clear Q hS hS_ hD
        refine s_gen (V := wideV (mulN (hiN (divN A D)) D)) [.pointer (some ⟨v5_4, 0, none⟩)] (by kernel_rfl) (by kernel_rfl) (by kernel_rfl) ?_
        intro r_ hr_
        have o0_ : r_ (.tmp 11) = .pointer (some ⟨v5_4, 0, none⟩) := op_at hr_ 0 (by kernel_rfl) (by kernel_rfl)
        clear hr_
        go_simp; first | done | with_reducible rfl
      simp only [Act.put, planVG, List.setIfInBounds_toArray, List.set_cons_zero, List.set_cons_succ, List.getElem?_cons_zero, List.getElem?_cons_succ]
      refine ⟨?_, ?_⟩
      · as_aux_lemma =>
        intro y_ hS_ hD
        try clear hS
        clear hS_ hD
        refine s_gcall (V := bitsV (loN (mulN (hiN (divN A D)) D))) [.func (.func 50) #[] #[], wideV (mulN (hiN (divN A D)) D)] ?_ ?_ (by kernel_rfl) (by kernel_rfl) (by kernel_rfl) ?_ ?_
        rotate_left 2
        · intro r_ hr_
          have o0_ : r_ (.func 50) = .func (.func 50) #[] #[] := op_at hr_ 0 (by kernel_rfl) (by kernel_rfl)
          have o1_ : r_ (.tmp 51) = wideV (mulN (hiN (divN A D)) D) := op_at hr_ 1 (by kernel_rfl) (by kernel_rfl)
          clear hr_
          go_simp; first | done | with_reducible rfl | (constructor <;> with_reducible rfl)
        · refine Low_at (IsWide.of (mulN_w (IsBits.of (hi_w (IsWide.of (div_w (IsWide.of hA).w _)).w)).w (IsBits.of hD).w)) _
      simp only [Act.put, planVG, List.setIfInBounds_toArray, List.set_cons_zero, List.set_cons_succ, List.getElem?_cons_zero, List.getElem?_cons_succ]
      refine ⟨?_, ?_⟩
      · as_aux_lemma =>
        intro y_ hS_ hD
        clear hS_ hD
        refine s_gen (V := .agg #[.int .u64 0, .int .u64 0]) [] (by kernel_rfl) (by kernel_rfl) (by kernel_rfl) ?_
        intro r_ hr_
        
        clear hr_
        go_simp; first | done | with_reducible rfl
      simp only [Act.put, planVG, List.setIfInBounds_toArray, List.set_cons_zero, List.set_cons_succ, List.getElem?_cons_zero, List.getElem?_cons_succ]
      refine ⟨?_, ?_⟩
      · as_aux_lemma =>
        intro y_ hS_ hD
        try clear hS
        clear hS_ hD
        refine s_gcall (V := wideV (joinN (loN (mulN (hiN (divN A D)) D)) (val2 0 0))) [.func (.func 32) #[] #[], bitsV (loN (mulN (hiN (divN A D)) D)), .agg #[.int .u64 0, .int .u64 0]] ?_ ?_ (by kernel_rfl) (by kernel_rfl) (by kernel_rfl) ?_ ?_
        rotate_left 2
        · intro r_ hr_
          have o0_ : r_ (.func 32) = .func (.func 32) #[] #[] := op_at hr_ 0 (by kernel_rfl) (by kernel_rfl)
          have o1_ : r_ (.tmp 52) = bitsV (loN (mulN (hiN (divN A D)) D)) := op_at hr_ 1 (by kernel_rfl) (by kernel_rfl)
          have o2_ : r_ (.tmp 53) = .agg #[.int .u64 0, .int .u64 0] := op_at hr_ 2 (by kernel_rfl) (by kernel_rfl)
          clear hr_
          go_simp; first | done | with_reducible rfl | (constructor <;> with_reducible rfl)
        · refine Join_at (IsBits.of (lo_w _)) (IsBits.val u64_zero u64_zero) _
      simp only [Act.put, planVG, List.setIfInBounds_toArray, List.set_cons_zero, List.set_cons_succ, List.getElem?_cons_zero, List.getElem?_cons_succ]
      refine ⟨?_, ?_⟩
      · as_aux_lemma =>
        intro y_ hS_ hD
        try clear hS
        clear hS_ hD
        refine s_gcall (V := .tuple #[wideV T, .bool false]) [.func (.func 52) #[] #[], wideV (mulN (loN (divN A D)) D), wideV (joinN (loN (mulN (hiN (divN A D)) D)) (val2 0 0))] ?_ ?_ (by kernel_rfl) (by kernel_rfl) (by kernel_rfl) ?_ ?_
        rotate_left 2
        · intro r_ hr_
          have o0_ : r_ (.func 52) = .func (.func 52) #[] #[] := op_at hr_ 0 (by kernel_rfl) (by kernel_rfl)
          have o1_ : r_ (.tmp 50) = wideV (mulN (loN (divN A D)) D) := op_at hr_ 1 (by kernel_rfl) (by kernel_rfl)
          have o2_ : r_ (.tmp 54) = wideV (joinN (loN (mulN (hiN (divN A D)) D)) (val2 0 0)) := op_at hr_ 2 (by kernel_rfl) (by kernel_rfl)
          clear hr_
          go_simp; first | done | with_reducible rfl | (constructor <;> with_reducible rfl)
        · refine calls_to (V := .tuple #[wideV T, .bool false]) (AddW_at (IsWide.of (mulN_w (IsBits.of (lo_w _)).w (IsBits.of hD).w)) (IsWide.of (join_w (IsBits.of (lo_w _)).w (IsBits.val u64_zero u64_zero).w)) _) (by rw [E1.out, E5.out])
      simp only [Act.put, planVG, List.setIfInBounds_toArray, List.set_cons_zero, List.set_cons_succ, List.getElem?_cons_zero, List.getElem?_cons_succ]
      refine ⟨?_, ?_⟩
      · as_aux_lemma =>
        intro y_ hS_ hD
        clear hS_ hD
        refine s_gen (V := .tuple #[wideV T, .bool false]) [.tuple #[wideV T, .bool false]] (by kernel_rfl) (by kernel_rfl) (by kernel_rfl) ?_
        intro r_ hr_
        have o0_ : r_ (.tmp 55) = .tuple #[wideV T, .bool false] := op_at hr_ 0 (by kernel_rfl) (by kernel_rfl)
        clear hr_
        go_simp; first | done | with_reducible rfl
      simp only [Act.put, planVG, List.setIfInBounds_toArray, List.set_cons_zero, List.set_cons_succ, List.getElem?_cons_zero, List.getElem?_cons_succ]
      refine ⟨?_, ?_⟩
      · as_aux_lemma =>
        intro y_ hS_ hD
        clear hS_ hD
        refine s_gen (V := wideV T) [.tuple #[wideV T, .bool false]] (by kernel_rfl) (by kernel_rfl) (by kernel_rfl) ?_
        intro r_ hr_
        have o0_ : r_ (.tmp 49) = .tuple #[wideV T, .bool false] := op_at hr_ 0 (by kernel_rfl) (by kernel_rfl)
        clear hr_
        go_simp; first | done | with_reducible rfl
      simp only [Act.put, planVG, List.setIfInBounds_toArray, List.set_cons_zero, List.set_cons_succ, List.getElem?_cons_zero, List.getElem?_cons_succ]
      refine ⟨?_, ?_⟩
      · as_aux_lemma =>
        intro y_ hS_ hD
        clear hS_ hD
        refine s_gen (V := .bool false) [.tuple #[wideV T, .bool false]] (by kernel_rfl) (by kernel_rfl) (by kernel_rfl) ?_
        intro r_ hr_
        have o0_ : r_ (.tmp 49) = .tuple #[wideV T, .bool false] := op_at hr_ 0 (by kernel_rfl) (by kernel_rfl)
        clear hr_
        go_simp; first | done | with_reducible rfl
      simp only [Act.put, planVG, List.setIfInBounds_toArray, List.set_cons_zero, List.set_cons_succ, List.getElem?_cons_zero, List.getElem?_cons_succ]
      refine ⟨?_, ?_⟩
      · as_aux_lemma =>
        intro y_ hS_ hD
        clear hS_ hD
        refine s_alloc (by rfl) (by rfl) ?_
        simp only [allocTy]
        go_simp; first | done | with_reducible rfl | rfl
      simp only [Act.put, planVG, List.setIfInBounds_toArray, List.set_cons_zero, List.set_cons_succ, List.getElem?_cons_zero, List.getElem?_cons_succ]
      refine ⟨?_, ?_⟩
      · as_aux_lemma =>
        intro y_ hS_ hD
        have hS := hS_ (by rfl)
        clear hS hS_ hD
        refine s_gput (j := 9) (Z := #[.int .u64 0, .int .u64 0, .int .u64 0, .int .u64 0]) (V := [.int .u64 (limb 0 T), .int .u64 (limb 1 T), .int .u64 (limb 2 T), .int .u64 (limb 3 T)]) [ρ 9, wideV T] (by kernel_rfl) (by kernel_rfl) (by kernel_rfl) (by kernel_rfl) ?_
        intro r_ b hr_ hb hB F
        have o0_ : r_ (.tmp 12) = ρ 9 := op_at hr_ 0 (by kernel_rfl) (by kernel_rfl)
        have o1_ : r_ (.tmp 56) = wideV T := op_at hr_ 1 (by kernel_rfl) (by kernel_rfl)
        clear hr_
        rw [hb] at o0_
        have Q := F.cell
        have q0 := Q 0 _ rfl
        have q1 := Q 1 _ rfl
        have q2 := Q 2 _ rfl
        have q3 := Q 3 _ rfl
        have Qf := F.free
        have Ql := F.lt
        clear Q F
        simp only [putCells]
        go_simp; first | done | with_reducible rfl | rfl
      simp only [Act.put, planVG, List.setIfInBounds_toArray, List.set_cons_zero, List.set_cons_succ, List.getElem?_cons_zero, List.getElem?_cons_succ]
      as_aux_lemma =>
        intro w5 hS hF hD_
        change wpList _ _ _ _ _ _
        replace hS := sg_no (by decide) hS
        obtain ⟨hk, hZ5, X1, X2, X3, X5, Bv4_4, Bv5_4⟩ := hS
        obtain ⟨v6_9, e_v6_9, hv6_9, Bv6_9⟩ : ∃ b, ρ 9 = .pointer (some ⟨b, 0, none⟩) ∧ w4.heap.size ≤ b ∧ Box w5 b #[.int .u64 (limb 0 T), .int .u64 (limb 1 T), .int .u64 (limb 2 T), .int .u64 (limb 3 T)] := by
          obtain ⟨b, h1, h2, h3⟩ := hF 9 (by decide)
          exact ⟨b, h1, h2, h3.lt, h3.cell, h3.free⟩
        clear hF hD_
        simp only [e_v6_9]
        clear e_v6_9
        clear ρ
        have hz_w5 := hk.size
        have X1l := X1.lt
        have X1f := X1.free
        have X1l1 : w.heap.size < w5.heap.size + 1 := by omega
        have X1l2 : w.heap.size < w5.heap.size + 1 + 1 := by omega
        have X1l3 : w.heap.size < w5.heap.size + 1 + 1 + 1 := by omega
        have X10 := X1.cell 0 _ rfl
        have X11 := X1.cell 1 _ rfl
        have X12 := X1.cell 2 _ rfl
        have X13 := X1.cell 3 _ rfl
        have X2l := X2.lt
        have X2f := X2.free
        have X2l1 : w.heap.size + 1 < w5.heap.size + 1 := by omega
        have X2l2 : w.heap.size + 1 < w5.heap.size + 1 + 1 := by omega
        have X2l3 : w.heap.size + 1 < w5.heap.size + 1 + 1 + 1 := by omega
        have X20 := X2.cell 0 _ rfl
        have X21 := X2.cell 1 _ rfl
        have X3l := X3.lt
        have X3f := X3.free
        have X3l1 : w.heap.size + 1 + 1 < w5.heap.size + 1 := by omega
        have X3l2 : w.heap.size + 1 + 1 < w5.heap.size + 1 + 1 := by omega
        have X3l3 : w.heap.size + 1 + 1 < w5.heap.size + 1 + 1 + 1 := by omega
        have X30 := X3.cell 0 _ rfl
        have X31 := X3.cell 1 _ rfl
        have X5l := X5.lt
        have X5f := X5.free
        have X5l1 : w1.heap.size + 1 < w5.heap.size + 1 := by omega
        have X5l2 : w1.heap.size + 1 < w5.heap.size + 1 + 1 := by omega
        have X5l3 : w1.heap.size + 1 < w5.heap.size + 1 + 1 + 1 := by omega
        have X50 := X5.cell 0 _ rfl
        have X51 := X5.cell 1 _ rfl
        have Bv4_4l := Bv4_4.lt
        have Bv4_4f := Bv4_4.free
        have Bv4_4l1 : v4_4 < w5.heap.size + 1 := by omega
        have Bv4_4l2 : v4_4 < w5.heap.size + 1 + 1 := by omega
        have Bv4_4l3 : v4_4 < w5.heap.size + 1 + 1 + 1 := by omega
        have Bv4_40 := Bv4_4.cell 0 _ rfl
        have Bv4_41 := Bv4_4.cell 1 _ rfl
        have Bv4_42 := Bv4_4.cell 2 _ rfl
        have Bv4_43 := Bv4_4.cell 3 _ rfl
        have Bv5_4l := Bv5_4.lt
        have Bv5_4f := Bv5_4.free
        have Bv5_4l1 : v5_4 < w5.heap.size + 1 := by omega
        have Bv5_4l2 : v5_4 < w5.heap.size + 1 + 1 := by omega
        have Bv5_4l3 : v5_4 < w5.heap.size + 1 + 1 + 1 := by omega
        have Bv5_40 := Bv5_4.cell 0 _ rfl
        have Bv5_41 := Bv5_4.cell 1 _ rfl
        have Bv5_42 := Bv5_4.cell 2 _ rfl
        have Bv5_43 := Bv5_4.cell 3 _ rfl
        have Bv6_9l := Bv6_9.lt
        have Bv6_9f := Bv6_9.free
        have Bv6_9l1 : v6_9 < w5.heap.size + 1 := by omega
        have Bv6_9l2 : v6_9 < w5.heap.size + 1 + 1 := by omega
        have Bv6_9l3 : v6_9 < w5.heap.size + 1 + 1 + 1 := by omega
        have Bv6_90 := Bv6_9.cell 0 _ rfl
        have Bv6_91 := Bv6_9.cell 1 _ rfl
        have Bv6_92 := Bv6_9.cell 2 _ rfl
        have Bv6_93 := Bv6_9.cell 3 _ rfl
        go_wp2
        refine wp_region_g 9 (fun W' => Kept w.heap.size w W' ∧ w5.heap.size ≤ W'.heap.size ∧ Box W' (w.heap.size) #[.int .u64 (limb 0 A), .int .u64 (limb 1 A), .int .u64 (limb 2 A), .int .u64 (limb 3 A)] ∧ Box W' (w.heap.size + 1) #[.int .u64 (limb 1 B), .int .u64 (limb 0 B)] ∧ Box W' (w.heap.size + 1 + 1) #[.int .u64 (limb 1 D), .int .u64 (limb 0 D)] ∧ Box W' (w1.heap.size + 1) #[.int .u64 (limb 1 (modN A D)), .int .u64 (limb 0 (modN A D))] ∧ Box W' (v5_4) #[.int .u64 (limb 0 (mulN (hiN (divN A D)) D)), .int .u64 (limb 1 (mulN (hiN (divN A D)) D)), .int .u64 (limb 2 (mulN (hiN (divN A D)) D)), .int .u64 (limb 3 (mulN (hiN (divN A D)) D))] ∧ Box W' (v6_9) #[.int .u64 (limb 0 T), .int .u64 (limb 1 T), .int .u64 (limb 2 T), .int .u64 (limb 3 T)]) (fun W' => Kept w.heap.size w W' ∧ w5.heap.size ≤ W'.heap.size ∧ Box W' (w.heap.size) #[.int .u64 (limb 0 A), .int .u64 (limb 1 A), .int .u64 (limb 2 A), .int .u64 (limb 3 A)] ∧ Box W' (w.heap.size + 1) #[.int .u64 (limb 1 B), .int .u64 (limb 0 B)] ∧ Box W' (w.heap.size + 1 + 1) #[.int .u64 (limb 1 D), .int .u64 (limb 0 D)] ∧ Box W' (w1.heap.size + 1) #[.int .u64 (limb 1 (modN A D)), .int .u64 (limb 0 (modN A D))] ∧ Box W' (v5_4) #[.int .u64 (limb 0 (mulN (hiN (divN A D)) D)), .int .u64 (limb 1 (mulN (hiN (divN A D)) D)), .int .u64 (limb 2 (mulN (hiN (divN A D)) D)), .int .u64 (limb 3 (mulN (hiN (divN A D)) D))] ∧ Box W' (v6_9) #[.int .u64 (limb 0 T), .int .u64 (limb 1 T), .int .u64 (limb 2 T), .int .u64 (limb 3 T)]) 1000 (w5.heap.size) [.known (wideV T), .known (bitsV (modN A D)), .known (wideV (modN A D)), .known (.tuple #[wideV A, .bool false]), .known (.tuple #[wideV A, .bool false]), .known (wideV A), .known (.bool false), .var #[.int .u64 0, .int .u64 0, .int .u64 0, .int .u64 0] 8 [.int .u64 (limb 0 A), .int .u64 (limb 1 A), .int .u64 (limb 2 A), .int .u64 (limb 3 A)], .put 7] (by kernel_rfl) (by kernel_rfl) (fun W W' h hb => ⟨h.1.step hb, Nat.le_trans (h.2.1) hb.size, Box.call hb (h.2.2.1), Box.call hb (h.2.2.2.1), Box.call hb (h.2.2.2.2.1), Box.call hb (h.2.2.2.2.2.1), Box.call hb (h.2.2.2.2.2.2.1), Box.call hb (h.2.2.2.2.2.2.2)⟩) (fun W W' h hb => ⟨h.1.step hb, Nat.le_trans (h.2.1) hb.size, Box.call hb (h.2.2.1), Box.call hb (h.2.2.2.1), Box.call hb (h.2.2.2.2.1), Box.call hb (h.2.2.2.2.2.1), Box.call hb (h.2.2.2.2.2.2.1), Box.call hb (h.2.2.2.2.2.2.2)⟩) (no_out (of_decide_eq_true (by kernel_rfl))) (.inr (fun W' b i v hb h => ⟨h.1.setCell (p := ⟨b, i, none⟩) (by simp only []; omega) v, (by rw [World.size_setCell]; exact h.2.1), (h.2.2.1).other (by omega), (h.2.2.2.1).other (by omega), (h.2.2.2.2.1).other (by omega), (h.2.2.2.2.2.1).other (by omega), (h.2.2.2.2.2.2.1).other (by omega), (h.2.2.2.2.2.2.2).other (by omega)⟩)) (.inr (fun W' b i v hb h => ⟨h.1.setCell (p := ⟨b, i, none⟩) (by simp only []; omega) v, (by rw [World.size_setCell]; exact h.2.1), (h.2.2.1).other (by omega), (h.2.2.2.1).other (by omega), (h.2.2.2.2.1).other (by omega), (h.2.2.2.2.2.1).other (by omega), (h.2.2.2.2.2.2.1).other (by omega), (h.2.2.2.2.2.2.2).other (by omega)⟩)) (fun _ h => h.2.1) (fun _ h => h.2.1) (⟨(by repeat (first | with_reducible exact hk | with_reducible exact Kept.refl _ | with_reducible refine Kept.alloc ?_ _ | with_reducible refine Kept.drew ?_ | with_reducible refine Kept.setCell ?_ (by simp only [World.size_alloc, World.size_setCell, World.size_drew]; omega) _)), (by (try simp only [World.size_alloc, World.size_setCell, World.size_drew]); omega), (by repeat (first | with_reducible assumption | with_reducible apply Box.set10 | with_reducible apply Box.set20 | with_reducible apply Box.set21 | with_reducible apply Box.set40 | with_reducible apply Box.set41 | with_reducible apply Box.set42 | with_reducible apply Box.set43 | with_reducible apply Box.set50 | with_reducible apply Box.set51 | with_reducible apply Box.set52 | with_reducible apply Box.set53 | with_reducible apply Box.set54 | with_reducible apply Box.drew | (with_reducible apply Box.newAt; (try simp only [World.size_alloc, World.size_setCell, World.size_drew]); done) | with_reducible apply Box.alloc | (with_reducible apply Box.other; case hne => ((try simp only [World.size_alloc, World.size_setCell, World.size_drew]); omega)))), (by repeat (first | with_reducible assumption | with_reducible apply Box.set10 | with_reducible apply Box.set20 | with_reducible apply Box.set21 | with_reducible apply Box.set40 | with_reducible apply Box.set41 | with_reducible apply Box.set42 | with_reducible apply Box.set43 | with_reducible apply Box.set50 | with_reducible apply Box.set51 | with_reducible apply Box.set52 | with_reducible apply Box.set53 | with_reducible apply Box.set54 | with_reducible apply Box.drew | (with_reducible apply Box.newAt; (try simp only [World.size_alloc, World.size_setCell, World.size_drew]); done) | with_reducible apply Box.alloc | (with_reducible apply Box.other; case hne => ((try simp only [World.size_alloc, World.size_setCell, World.size_drew]); omega)))), (by repeat (first | with_reducible assumption | with_reducible apply Box.set10 | with_reducible apply Box.set20 | with_reducible apply Box.set21 | with_reducible apply Box.set40 | with_reducible apply Box.set41 | with_reducible apply Box.set42 | with_reducible apply Box.set43 | with_reducible apply Box.set50 | with_reducible apply Box.set51 | with_reducible apply Box.set52 | with_reducible apply Box.set53 | with_reducible apply Box.set54 | with_reducible apply Box.drew | (with_reducible apply Box.newAt; (try simp only [World.size_alloc, World.size_setCell, World.size_drew]); done) | with_reducible apply Box.alloc | (with_reducible apply Box.other; case hne => ((try simp only [World.size_alloc, World.size_setCell, World.size_drew]); omega)))), (by repeat (first | with_reducible assumption | with_reducible apply Box.set10 | with_reducible apply Box.set20 | with_reducible apply Box.set21 | with_reducible apply Box.set40 | with_reducible apply Box.set41 | with_reducible apply Box.set42 | with_reducible apply Box.set43 | with_reducible apply Box.set50 | with_reducible apply Box.set51 | with_reducible apply Box.set52 | with_reducible apply Box.set53 | with_reducible apply Box.set54 | with_reducible apply Box.drew | (with_reducible apply Box.newAt; (try simp only [World.size_alloc, World.size_setCell, World.size_drew]); done) | with_reducible apply Box.alloc | (with_reducible apply Box.other; case hne => ((try simp only [World.size_alloc, World.size_setCell, World.size_drew]); omega)))), (by repeat (first | with_reducible assumption | with_reducible apply Box.set10 | with_reducible apply Box.set20 | with_reducible apply Box.set21 | with_reducible apply Box.set40 | with_reducible apply Box.set41 | with_reducible apply Box.set42 | with_reducible apply Box.set43 | with_reducible apply Box.set50 | with_reducible apply Box.set51 | with_reducible apply Box.set52 | with_reducible apply Box.set53 | with_reducible apply Box.set54 | with_reducible apply Box.drew | (with_reducible apply Box.newAt; (try simp only [World.size_alloc, World.size_setCell, World.size_drew]); done) | with_reducible apply Box.alloc | (with_reducible apply Box.other; case hne => ((try simp only [World.size_alloc, World.size_setCell, World.size_drew]); omega)))), (by repeat (first | with_reducible assumption | with_reducible apply Box.set10 | with_reducible apply Box.set20 | with_reducible apply Box.set21 | with_reducible apply Box.set40 | with_reducible apply Box.set41 | with_reducible apply Box.set42 | with_reducible apply Box.set43 | with_reducible apply Box.set50 | with_reducible apply Box.set51 | with_reducible apply Box.set52 | with_reducible apply Box.set53 | with_reducible apply Box.set54 | with_reducible apply Box.drew | (with_reducible apply Box.newAt; (try simp only [World.size_alloc, World.size_setCell, World.size_drew]); done) | with_reducible apply Box.alloc | (with_reducible apply Box.other; case hne => ((try simp only [World.size_alloc, World.size_setCell, World.size_drew]); omega))))⟩) ?_
        clear hk
        clear X1 X1l1 X1l2 X1l3 X1f X10 X11 X12 X13
        clear X2 X2l1 X2l2 X2l3 X2f X20 X21
        clear X3 X3l1 X3l2 X3l3 X3f X30 X31
        clear X5 X5l1 X5l2 X5l3 X5f X50 X51
        clear Bv4_4 Bv4_4l1 Bv4_4l2 Bv4_4l3 Bv4_4f Bv4_40 Bv4_41 Bv4_42 Bv4_43
        clear Bv5_4 Bv5_4l1 Bv5_4l2 Bv5_4l3 Bv5_4f Bv5_40 Bv5_41 Bv5_42 Bv5_43
        clear Bv6_9 Bv6_9l1 Bv6_9l2 Bv6_9l3 Bv6_9f Bv6_90 Bv6_91 Bv6_92 Bv6_93
        intro ρ
        simp only [List.take_succ_cons, List.take_zero, List.drop_succ_cons, List.drop_zero]
        refine ⟨?_, ?_⟩
        · as_aux_lemma =>
          intro y_ hS_ hD
          have hS := hS_ (by rfl)
          have Q := (hS.2.2.2.2.2.2.2).cell
          have q0 := Q 0 _ rfl
          have q1 := Q 1 _ rfl
          have q2 := Q 2 _ rfl
          have q3 := Q 3 _ rfl
          clear Q hS hS_ hD
          refine s_gen (V := wideV T) [.pointer (some ⟨v6_9, 0, none⟩)] (by kernel_rfl) (by kernel_rfl) (by kernel_rfl) ?_
          intro r_ hr_
          have o0_ : r_ (.tmp 12) = .pointer (some ⟨v6_9, 0, none⟩) := op_at hr_ 0 (by kernel_rfl) (by kernel_rfl)
          clear hr_
          go_simp; first | done | with_reducible rfl
        simp only [Act.put, planVG, List.setIfInBounds_toArray, List.set_cons_zero, List.set_cons_succ, List.getElem?_cons_zero, List.getElem?_cons_succ]
        refine ⟨?_, ?_⟩
        · as_aux_lemma =>
          intro y_ hS_ hD
          have hS := hS_ (by rfl)
          have Q := (hS.2.2.2.2.2.1).cell
          have q0 := Q 0 _ rfl
          have q1 := Q 1 _ rfl
          clear Q hS hS_ hD
          refine s_gen (V := bitsV (modN A D)) [.pointer (some ⟨w1.heap.size + 1, 0, none⟩)] (by kernel_rfl) (by kernel_rfl) (by kernel_rfl) ?_
          intro r_ hr_
          have o0_ : r_ (.tmp 8) = .pointer (some ⟨w1.heap.size + 1, 0, none⟩) := op_at hr_ 0 (by kernel_rfl) (by kernel_rfl)
          clear hr_
          go_simp; first | done | with_reducible rfl
        simp only [Act.put, planVG, List.setIfInBounds_toArray, List.set_cons_zero, List.set_cons_succ, List.getElem?_cons_zero, List.getElem?_cons_succ]
        refine ⟨?_, ?_⟩
        · as_aux_lemma =>
          intro y_ hS_ hD
          try clear hS
          clear hS_ hD
          refine s_gcall (V := wideV (modN A D)) [.func (.func 44) #[] #[], bitsV (modN A D)] ?_ ?_ (by kernel_rfl) (by kernel_rfl) (by kernel_rfl) ?_ ?_
          rotate_left 2
          · intro r_ hr_
            have o0_ : r_ (.func 44) = .func (.func 44) #[] #[] := op_at hr_ 0 (by kernel_rfl) (by kernel_rfl)
            have o1_ : r_ (.tmp 60) = bitsV (modN A D) := op_at hr_ 1 (by kernel_rfl) (by kernel_rfl)
            clear hr_
            go_simp; first | done | with_reducible rfl | (constructor <;> with_reducible rfl)
          · refine Of_at (IsBits.of (mod_w _ (IsBits.of hD).w h0)) _
        simp only [Act.put, planVG, List.setIfInBounds_toArray, List.set_cons_zero, List.set_cons_succ, List.getElem?_cons_zero, List.getElem?_cons_succ]
        refine ⟨?_, ?_⟩
        · as_aux_lemma =>
          intro y_ hS_ hD
          try clear hS
          clear hS_ hD
          refine s_gcall (V := .tuple #[wideV A, .bool false]) [.func (.func 52) #[] #[], wideV T, wideV (modN A D)] ?_ ?_ (by kernel_rfl) (by kernel_rfl) (by kernel_rfl) ?_ ?_
          rotate_left 2
          · intro r_ hr_
            have o0_ : r_ (.func 52) = .func (.func 52) #[] #[] := op_at hr_ 0 (by kernel_rfl) (by kernel_rfl)
            have o1_ : r_ (.tmp 59) = wideV T := op_at hr_ 1 (by kernel_rfl) (by kernel_rfl)
            have o2_ : r_ (.tmp 61) = wideV (modN A D) := op_at hr_ 2 (by kernel_rfl) (by kernel_rfl)
            clear hr_
            go_simp; first | done | with_reducible rfl | (constructor <;> with_reducible rfl)
          · refine calls_to (V := .tuple #[wideV A, .bool false]) (AddW_at (IsWide.of hT) (IsWide.of (w128_256 (IsBits.of (mod_w _ (IsBits.of hD).w h0)).w)) _) (by rw [E2.out, E6.out])
        simp only [Act.put, planVG, List.setIfInBounds_toArray, List.set_cons_zero, List.set_cons_succ, List.getElem?_cons_zero, List.getElem?_cons_succ]
        refine ⟨?_, ?_⟩
        · as_aux_lemma =>
          intro y_ hS_ hD
          clear hS_ hD
          refine s_gen (V := .tuple #[wideV A, .bool false]) [.tuple #[wideV A, .bool false]] (by kernel_rfl) (by kernel_rfl) (by kernel_rfl) ?_
          intro r_ hr_
          have o0_ : r_ (.tmp 62) = .tuple #[wideV A, .bool false] := op_at hr_ 0 (by kernel_rfl) (by kernel_rfl)
          clear hr_
          go_simp; first | done | with_reducible rfl
        simp only [Act.put, planVG, List.setIfInBounds_toArray, List.set_cons_zero, List.set_cons_succ, List.getElem?_cons_zero, List.getElem?_cons_succ]
        refine ⟨?_, ?_⟩
        · as_aux_lemma =>
          intro y_ hS_ hD
          clear hS_ hD
          refine s_gen (V := wideV A) [.tuple #[wideV A, .bool false]] (by kernel_rfl) (by kernel_rfl) (by kernel_rfl) ?_
          intro r_ hr_
          have o0_ : r_ (.tmp 58) = .tuple #[wideV A, .bool false] := op_at hr_ 0 (by kernel_rfl) (by kernel_rfl)
          clear hr_
          go_simp; first | done | with_reducible rfl
        simp only [Act.put, planVG, List.setIfInBounds_toArray, List.set_cons_zero, List.set_cons_succ, List.getElem?_cons_zero, List.getElem?_cons_succ]
        refine ⟨?_, ?_⟩
        · as_aux_lemma =>
          intro y_ hS_ hD
          clear hS_ hD
          refine s_gen (V := .bool false) [.tuple #[wideV A, .bool false]] (by kernel_rfl) (by kernel_rfl) (by kernel_rfl) ?_
          intro r_ hr_
          have o0_ : r_ (.tmp 58) = .tuple #[wideV A, .bool false] := op_at hr_ 0 (by kernel_rfl) (by kernel_rfl)
          clear hr_
          go_simp; first | done | with_reducible rfl
        simp only [Act.put, planVG, List.setIfInBounds_toArray, List.set_cons_zero, List.set_cons_succ, List.getElem?_cons_zero, List.getElem?_cons_succ]
        refine ⟨?_, ?_⟩
        · as_aux_lemma =>
          intro y_ hS_ hD
          clear hS_ hD
          refine s_alloc (by rfl) (by rfl) ?_
          simp only [allocTy]
          go_simp; first | done | with_reducible rfl | rfl
        simp only [Act.put, planVG, List.setIfInBounds_toArray, List.set_cons_zero, List.set_cons_succ, List.getElem?_cons_zero, List.getElem?_cons_succ]
        refine ⟨?_, ?_⟩
        · as_aux_lemma =>
          intro y_ hS_ hD
          have hS := hS_ (by rfl)
          clear hS hS_ hD
          refine s_gput (j := 7) (Z := #[.int .u64 0, .int .u64 0, .int .u64 0, .int .u64 0]) (V := [.int .u64 (limb 0 A), .int .u64 (limb 1 A), .int .u64 (limb 2 A), .int .u64 (limb 3 A)]) [ρ 7, wideV A] (by kernel_rfl) (by kernel_rfl) (by kernel_rfl) (by kernel_rfl) ?_
          intro r_ b hr_ hb hB F
          have o0_ : r_ (.tmp 14) = ρ 7 := op_at hr_ 0 (by kernel_rfl) (by kernel_rfl)
          have o1_ : r_ (.tmp 63) = wideV A := op_at hr_ 1 (by kernel_rfl) (by kernel_rfl)
          clear hr_
          rw [hb] at o0_
          have Q := F.cell
          have q0 := Q 0 _ rfl
          have q1 := Q 1 _ rfl
          have q2 := Q 2 _ rfl
          have q3 := Q 3 _ rfl
          have Qf := F.free
          have Ql := F.lt
          clear Q F
          simp only [putCells]
          go_simp; first | done | with_reducible rfl | rfl
        simp only [Act.put, planVG, List.setIfInBounds_toArray, List.set_cons_zero, List.set_cons_succ, List.getElem?_cons_zero, List.getElem?_cons_succ]
        as_aux_lemma =>
          intro w6 hS hF hD_
          change wpList _ _ _ _ _ _
          replace hS := sg_no (by decide) hS
          obtain ⟨hk, hZ6, X1, X2, X3, X5, Bv5_4, Bv6_9⟩ := hS
          obtain ⟨v7_7, e_v7_7, hv7_7, Bv7_7⟩ : ∃ b, ρ 7 = .pointer (some ⟨b, 0, none⟩) ∧ w5.heap.size ≤ b ∧ Box w6 b #[.int .u64 (limb 0 A), .int .u64 (limb 1 A), .int .u64 (limb 2 A), .int .u64 (limb 3 A)] := by
            obtain ⟨b, h1, h2, h3⟩ := hF 7 (by decide)
            exact ⟨b, h1, h2, h3.lt, h3.cell, h3.free⟩
          clear hF hD_
          simp only [e_v7_7]
          clear e_v7_7
          clear ρ
          have hz_w6 := hk.size
          have X1l := X1.lt
          have X1f := X1.free
          have X1l1 : w.heap.size < w6.heap.size + 1 := by omega
          have X1l2 : w.heap.size < w6.heap.size + 1 + 1 := by omega
          have X1l3 : w.heap.size < w6.heap.size + 1 + 1 + 1 := by omega
          have X10 := X1.cell 0 _ rfl
          have X11 := X1.cell 1 _ rfl
          have X12 := X1.cell 2 _ rfl
          have X13 := X1.cell 3 _ rfl
          have X2l := X2.lt
          have X2f := X2.free
          have X2l1 : w.heap.size + 1 < w6.heap.size + 1 := by omega
          have X2l2 : w.heap.size + 1 < w6.heap.size + 1 + 1 := by omega
          have X2l3 : w.heap.size + 1 < w6.heap.size + 1 + 1 + 1 := by omega
          have X20 := X2.cell 0 _ rfl
          have X21 := X2.cell 1 _ rfl
          have X3l := X3.lt
          have X3f := X3.free
          have X3l1 : w.heap.size + 1 + 1 < w6.heap.size + 1 := by omega
          have X3l2 : w.heap.size + 1 + 1 < w6.heap.size + 1 + 1 := by omega
          have X3l3 : w.heap.size + 1 + 1 < w6.heap.size + 1 + 1 + 1 := by omega
          have X30 := X3.cell 0 _ rfl
          have X31 := X3.cell 1 _ rfl
          have X5l := X5.lt
          have X5f := X5.free
          have X5l1 : w1.heap.size + 1 < w6.heap.size + 1 := by omega
          have X5l2 : w1.heap.size + 1 < w6.heap.size + 1 + 1 := by omega
          have X5l3 : w1.heap.size + 1 < w6.heap.size + 1 + 1 + 1 := by omega
          have X50 := X5.cell 0 _ rfl
          have X51 := X5.cell 1 _ rfl
          have Bv5_4l := Bv5_4.lt
          have Bv5_4f := Bv5_4.free
          have Bv5_4l1 : v5_4 < w6.heap.size + 1 := by omega
          have Bv5_4l2 : v5_4 < w6.heap.size + 1 + 1 := by omega
          have Bv5_4l3 : v5_4 < w6.heap.size + 1 + 1 + 1 := by omega
          have Bv5_40 := Bv5_4.cell 0 _ rfl
          have Bv5_41 := Bv5_4.cell 1 _ rfl
          have Bv5_42 := Bv5_4.cell 2 _ rfl
          have Bv5_43 := Bv5_4.cell 3 _ rfl
          have Bv6_9l := Bv6_9.lt
          have Bv6_9f := Bv6_9.free
          have Bv6_9l1 : v6_9 < w6.heap.size + 1 := by omega
          have Bv6_9l2 : v6_9 < w6.heap.size + 1 + 1 := by omega
          have Bv6_9l3 : v6_9 < w6.heap.size + 1 + 1 + 1 := by omega
          have Bv6_90 := Bv6_9.cell 0 _ rfl
          have Bv6_91 := Bv6_9.cell 1 _ rfl
          have Bv6_92 := Bv6_9.cell 2 _ rfl
          have Bv6_93 := Bv6_9.cell 3 _ rfl
          have Bv7_7l := Bv7_7.lt
          have Bv7_7f := Bv7_7.free
          have Bv7_7l1 : v7_7 < w6.heap.size + 1 := by omega
          have Bv7_7l2 : v7_7 < w6.heap.size + 1 + 1 := by omega
          have Bv7_7l3 : v7_7 < w6.heap.size + 1 + 1 + 1 := by omega
          have Bv7_70 := Bv7_7.cell 0 _ rfl
          have Bv7_71 := Bv7_7.cell 1 _ rfl
          have Bv7_72 := Bv7_7.cell 2 _ rfl
          have Bv7_73 := Bv7_7.cell 3 _ rfl
          go_upto_region 8 with fail
          refine wp_region_p 25 (fun W' => Kept w.heap.size w W' ∧ w6.heap.size ≤ W'.heap.size ∧ Box W' (w.heap.size) #[.int .u64 (limb 0 A), .int .u64 (limb 1 A), .int .u64 (limb 2 A), .int .u64 (limb 3 A)] ∧ Box W' (w.heap.size + 1) #[.int .u64 (limb 1 B), .int .u64 (limb 0 B)] ∧ Box W' (w.heap.size + 1 + 1) #[.int .u64 (limb 1 D), .int .u64 (limb 0 D)] ∧ Box W' (w1.heap.size + 1) #[.int .u64 (limb 1 (modN A D)), .int .u64 (limb 0 (modN A D))] ∧ Box W' (v5_4) #[.int .u64 (limb 0 (mulN (hiN (divN A D)) D)), .int .u64 (limb 1 (mulN (hiN (divN A D)) D)), .int .u64 (limb 2 (mulN (hiN (divN A D)) D)), .int .u64 (limb 3 (mulN (hiN (divN A D)) D))] ∧ Box W' (v7_7) #[.int .u64 (limb 0 A), .int .u64 (limb 1 A), .int .u64 (limb 2 A), .int .u64 (limb 3 A)]) (fun W' => Kept w.heap.size w W' ∧ w6.heap.size ≤ W'.heap.size ∧ Box W' (w.heap.size) #[.int .u64 (limb 0 A), .int .u64 (limb 1 A), .int .u64 (limb 2 A), .int .u64 (limb 3 A)] ∧ Box W' (w.heap.size + 1) #[.int .u64 (limb 1 B), .int .u64 (limb 0 B)] ∧ Box W' (w.heap.size + 1 + 1) #[.int .u64 (limb 1 D), .int .u64 (limb 0 D)] ∧ Box W' (w1.heap.size + 1) #[.int .u64 (limb 1 (modN A D)), .int .u64 (limb 0 (modN A D))] ∧ Box W' (v5_4) #[.int .u64 (limb 0 (mulN (hiN (divN A D)) D)), .int .u64 (limb 1 (mulN (hiN (divN A D)) D)), .int .u64 (limb 2 (mulN (hiN (divN A D)) D)), .int .u64 (limb 3 (mulN (hiN (divN A D)) D))] ∧ Box W' (v7_7) #[.int .u64 (limb 0 A), .int .u64 (limb 1 A), .int .u64 (limb 2 A), .int .u64 (limb 3 A)]) 1000 (w6.heap.size) [.known (.bool true), .known (.bool false), .known (.bool false), .known (.bool false), .known (.bool false), .known (.bool false), .known (.bool false), .known (.bool false), .known (.bool false), .known (wideV (mulN (hiN (divN A D)) D)), .known (bitsV (hiN (mulN (hiN (divN A D)) D))), .known (.bool true), .known (.bool false), .known (.bool false), .known (.bool false), .known (wideV A), .known (wideV A), .known (.bool false), .known (.bool false), .known (.bool false), .known (bitsV (modN A D)), .known (bitsV D), .known (.int .i64 (cmpN (modN A D) D)), .known (.bool false), .known (.bool false)] (by kernel_rfl) (by kernel_rfl) (fun W W' h hb => ⟨h.1.step hb, Nat.le_trans (h.2.1) hb.size, Box.call hb (h.2.2.1), Box.call hb (h.2.2.2.1), Box.call hb (h.2.2.2.2.1), Box.call hb (h.2.2.2.2.2.1), Box.call hb (h.2.2.2.2.2.2.1), Box.call hb (h.2.2.2.2.2.2.2)⟩) (fun W W' h hb => ⟨h.1.step hb, Nat.le_trans (h.2.1) hb.size, Box.call hb (h.2.2.1), Box.call hb (h.2.2.2.1), Box.call hb (h.2.2.2.2.1), Box.call hb (h.2.2.2.2.2.1), Box.call hb (h.2.2.2.2.2.2.1), Box.call hb (h.2.2.2.2.2.2.2)⟩) (no_out (of_decide_eq_true (by kernel_rfl))) (.inl (by kernel_rfl)) (.inl (by kernel_rfl)) (fun _ h => h.2.1) (fun _ h => h.2.1) (⟨(by repeat (first | with_reducible exact hk | with_reducible exact Kept.refl _ | with_reducible refine Kept.alloc ?_ _ | with_reducible refine Kept.drew ?_ | with_reducible refine Kept.setCell ?_ (by simp only [World.size_alloc, World.size_setCell, World.size_drew]; omega) _)), (by (try simp only [World.size_alloc, World.size_setCell, World.size_drew]); omega), (by repeat (first | with_reducible assumption | with_reducible apply Box.set10 | with_reducible apply Box.set20 | with_reducible apply Box.set21 | with_reducible apply Box.set40 | with_reducible apply Box.set41 | with_reducible apply Box.set42 | with_reducible apply Box.set43 | with_reducible apply Box.set50 | with_reducible apply Box.set51 | with_reducible apply Box.set52 | with_reducible apply Box.set53 | with_reducible apply Box.set54 | with_reducible apply Box.drew | (with_reducible apply Box.newAt; (try simp only [World.size_alloc, World.size_setCell, World.size_drew]); done) | with_reducible apply Box.alloc | (with_reducible apply Box.other; case hne => ((try simp only [World.size_alloc, World.size_setCell, World.size_drew]); omega)))), (by repeat (first | with_reducible assumption | with_reducible apply Box.set10 | with_reducible apply Box.set20 | with_reducible apply Box.set21 | with_reducible apply Box.set40 | with_reducible apply Box.set41 | with_reducible apply Box.set42 | with_reducible apply Box.set43 | with_reducible apply Box.set50 | with_reducible apply Box.set51 | with_reducible apply Box.set52 | with_reducible apply Box.set53 | with_reducible apply Box.set54 | with_reducible apply Box.drew | (with_reducible apply Box.newAt; (try simp only [World.size_alloc, World.size_setCell, World.size_drew]); done) | with_reducible apply Box.alloc | (with_reducible apply Box.other; case hne => ((try simp only [World.size_alloc, World.size_setCell, World.size_drew]); omega)))), (by repeat (first | with_reducible assumption | with_reducible apply Box.set10 | with_reducible apply Box.set20 | with_reducible apply Box.set21 | with_reducible apply Box.set40 | with_reducible apply Box.set41 | with_reducible apply Box.set42 | with_reducible apply Box.set43 | with_reducible apply Box.set50 | with_reducible apply Box.set51 | with_reducible apply Box.set52 | with_reducible apply Box.set53 | with_reducible apply Box.set54 | with_reducible apply Box.drew | (with_reducible apply Box.newAt; (try simp only [World.size_alloc, World.size_setCell, World.size_drew]); done) | with_reducible apply Box.alloc | (with_reducible apply Box.other; case hne => ((try simp only [World.size_alloc, World.size_setCell, World.size_drew]); omega)))), (by repeat (first | with_reducible assumption | with_reducible apply Box.set10 | with_reducible apply Box.set20 | with_reducible apply Box.set21 | with_reducible apply Box.set40 | with_reducible apply Box.set41 | with_reducible apply Box.set42 | with_reducible apply Box.set43 | with_reducible apply Box.set50 | with_reducible apply Box.set51 | with_reducible apply Box.set52 | with_reducible apply Box.set53 | with_reducible apply Box.set54 | with_reducible apply Box.drew | (with_reducible apply Box.newAt; (try simp only [World.size_alloc, World.size_setCell, World.size_drew]); done) | with_reducible apply Box.alloc | (with_reducible apply Box.other; case hne => ((try simp only [World.size_alloc, World.size_setCell, World.size_drew]); omega)))), (by repeat (first | with_reducible assumption | with_reducible apply Box.set10 | with_reducible apply Box.set20 | with_reducible apply Box.set21 | with_reducible apply Box.set40 | with_reducible apply Box.set41 | with_reducible apply Box.set42 | with_reducible apply Box.set43 | with_reducible apply Box.set50 | with_reducible apply Box.set51 | with_reducible apply Box.set52 | with_reducible apply Box.set53 | with_reducible apply Box.set54 | with_reducible apply Box.drew | (with_reducible apply Box.newAt; (try simp only [World.size_alloc, World.size_setCell, World.size_drew]); done) | with_reducible apply Box.alloc | (with_reducible apply Box.other; case hne => ((try simp only [World.size_alloc, World.size_setCell, World.size_drew]); omega)))), (by repeat (first | with_reducible assumption | with_reducible apply Box.set10 | with_reducible apply Box.set20 | with_reducible apply Box.set21 | with_reducible apply Box.set40 | with_reducible apply Box.set41 | with_reducible apply Box.set42 | with_reducible apply Box.set43 | with_reducible apply Box.set50 | with_reducible apply Box.set51 | with_reducible apply Box.set52 | with_reducible apply Box.set53 | with_reducible apply Box.set54 | with_reducible apply Box.drew | (with_reducible apply Box.newAt; (try simp only [World.size_alloc, World.size_setCell, World.size_drew]); done) | with_reducible apply Box.alloc | (with_reducible apply Box.other; case hne => ((try simp only [World.size_alloc, World.size_setCell, World.size_drew]); omega))))⟩) ?_
          clear hk
          clear X1 X1l1 X1l2 X1l3 X1f X10 X11 X12 X13
          clear X2 X2l1 X2l2 X2l3 X2f X20 X21
          clear X3 X3l1 X3l2 X3l3 X3f X30 X31
          clear X5 X5l1 X5l2 X5l3 X5f X50 X51
          clear Bv5_4 Bv5_4l1 Bv5_4l2 Bv5_4l3 Bv5_4f Bv5_40 Bv5_41 Bv5_42 Bv5_43
          clear Bv6_9 Bv6_9l1 Bv6_9l2 Bv6_9l3 Bv6_9f Bv6_90 Bv6_91 Bv6_92 Bv6_93
          clear Bv7_7 Bv7_7l1 Bv7_7l2 Bv7_7l3 Bv7_7f Bv7_70 Bv7_71 Bv7_72 Bv7_73
          intro ρ
          simp only [List.take_succ_cons, List.take_zero, List.drop_succ_cons, List.drop_zero]
          refine ⟨?_, ?_⟩
          · as_aux_lemma =>
            intro y_ hS_ hD
            clear hS_ hD
            refine s_gen (V := .bool true) [.bool true] (by kernel_rfl) (by kernel_rfl) (by kernel_rfl) ?_
            intro r_ hr_
            have o0_ : r_ (.tmp 9) = .bool true := op_at hr_ 0 (by kernel_rfl) (by kernel_rfl)
            clear hr_
            go_simp; first | done | with_reducible rfl
          simp only [Act.put, planVG, List.setIfInBounds_toArray, List.set_cons_zero, List.set_cons_succ, List.getElem?_cons_zero, List.getElem?_cons_succ]
          refine ⟨?_, ?_⟩
          · as_aux_lemma =>
            intro y_ hS_ hD
            clear hS_ hD
            refine s_gen (V := .bool false) [.bool true] (by kernel_rfl) (by kernel_rfl) (by kernel_rfl) ?_
            intro r_ hr_
            have o0_ : r_ (.tmp 65) = .bool true := op_at hr_ 0 (by kernel_rfl) (by kernel_rfl)
            clear hr_
            go_simp; first | done | with_reducible rfl
          simp only [Act.put, planVG, List.setIfInBounds_toArray, List.set_cons_zero, List.set_cons_succ, List.getElem?_cons_zero, List.getElem?_cons_succ]
          refine ⟨?_, ?_⟩
          · as_aux_lemma =>
            intro y_ hS_ hD
            clear hS_ hD
            refine s_gen (V := .bool false) [.bool false] (by kernel_rfl) (by kernel_rfl) (by kernel_rfl) ?_
            intro r_ hr_
            have o0_ : r_ (.tmp 66) = .bool false := op_at hr_ 0 (by kernel_rfl) (by kernel_rfl)
            clear hr_
            go_simp; first | done | with_reducible rfl
          simp only [Act.put, planVG, List.setIfInBounds_toArray, List.set_cons_zero, List.set_cons_succ, List.getElem?_cons_zero, List.getElem?_cons_succ]
          refine ⟨?_, ?_⟩
          · as_aux_lemma =>
            intro y_ hS_ hD
            clear hS_ hD
            refine s_gen (V := .bool false) [.bool false] (by kernel_rfl) (by kernel_rfl) (by kernel_rfl) ?_
            intro r_ hr_
            have o0_ : r_ (.tmp 13) = .bool false := op_at hr_ 0 (by kernel_rfl) (by kernel_rfl)
            clear hr_
            go_simp; first | done | with_reducible rfl
          simp only [Act.put, planVG, List.setIfInBounds_toArray, List.set_cons_zero, List.set_cons_succ, List.getElem?_cons_zero, List.getElem?_cons_succ]
          refine ⟨?_, ?_⟩
          · as_aux_lemma =>
            intro y_ hS_ hD
            clear hS_ hD
            refine s_gen (V := .bool false) [.bool false, .bool true, .bool false] (by kernel_rfl) (by kernel_rfl) (by kernel_rfl) ?_
            intro r_ hr_
            have o0_ : r_ (.tmp 67) = .bool false := op_at hr_ 0 (by kernel_rfl) (by kernel_rfl)
            have o1_ : r_ (.const (.bool true)) = .bool true := op_at hr_ 1 (by kernel_rfl) (by kernel_rfl)
            have o2_ : r_ (.tmp 68) = .bool false := op_at hr_ 2 (by kernel_rfl) (by kernel_rfl)
            clear hr_
            go_simp; first | done | with_reducible rfl
          simp only [Act.put, planVG, List.setIfInBounds_toArray, List.set_cons_zero, List.set_cons_succ, List.getElem?_cons_zero, List.getElem?_cons_succ]
          refine ⟨?_, ?_⟩
          · as_aux_lemma =>
            intro y_ hS_ hD
            clear hS_ hD
            refine s_gen (V := .bool false) [.bool false] (by kernel_rfl) (by kernel_rfl) (by kernel_rfl) ?_
            intro r_ hr_
            have o0_ : r_ (.tmp 69) = .bool false := op_at hr_ 0 (by kernel_rfl) (by kernel_rfl)
            clear hr_
            go_simp; first | done | with_reducible rfl
          simp only [Act.put, planVG, List.setIfInBounds_toArray, List.set_cons_zero, List.set_cons_succ, List.getElem?_cons_zero, List.getElem?_cons_succ]
          refine ⟨?_, ?_⟩
          · as_aux_lemma =>
            intro y_ hS_ hD
            clear hS_ hD
            refine s_gen (V := .bool false) [.bool false] (by kernel_rfl) (by kernel_rfl) (by kernel_rfl) ?_
            intro r_ hr_
            have o0_ : r_ (.tmp 15) = .bool false := op_at hr_ 0 (by kernel_rfl) (by kernel_rfl)
            clear hr_
            go_simp; first | done | with_reducible rfl
          simp only [Act.put, planVG, List.setIfInBounds_toArray, List.set_cons_zero, List.set_cons_succ, List.getElem?_cons_zero, List.getElem?_cons_succ]
          refine ⟨?_, ?_⟩
          · as_aux_lemma =>
            intro y_ hS_ hD
            clear hS_ hD
            refine s_gen (V := .bool false) [.bool false, .bool true, .bool false] (by kernel_rfl) (by kernel_rfl) (by kernel_rfl) ?_
            intro r_ hr_
            have o0_ : r_ (.tmp 70) = .bool false := op_at hr_ 0 (by kernel_rfl) (by kernel_rfl)
            have o1_ : r_ (.const (.bool true)) = .bool true := op_at hr_ 1 (by kernel_rfl) (by kernel_rfl)
            have o2_ : r_ (.tmp 71) = .bool false := op_at hr_ 2 (by kernel_rfl) (by kernel_rfl)
            clear hr_
            go_simp; first | done | with_reducible rfl
          simp only [Act.put, planVG, List.setIfInBounds_toArray, List.set_cons_zero, List.set_cons_succ, List.getElem?_cons_zero, List.getElem?_cons_succ]
          refine ⟨?_, ?_⟩
          · as_aux_lemma =>
            intro y_ hS_ hD
            clear hS_ hD
            refine s_gen (V := .bool false) [.bool false] (by kernel_rfl) (by kernel_rfl) (by kernel_rfl) ?_
            intro r_ hr_
            have o0_ : r_ (.tmp 72) = .bool false := op_at hr_ 0 (by kernel_rfl) (by kernel_rfl)
            clear hr_
            go_simp; first | done | with_reducible rfl
          simp only [Act.put, planVG, List.setIfInBounds_toArray, List.set_cons_zero, List.set_cons_succ, List.getElem?_cons_zero, List.getElem?_cons_succ]
          refine ⟨?_, ?_⟩
          · as_aux_lemma =>
            intro y_ hS_ hD
            have hS := hS_ (by rfl)
            have Q := (hS.2.2.2.2.2.2.1).cell
            have q0 := Q 0 _ rfl
            have q1 := Q 1 _ rfl
            have q2 := Q 2 _ rfl
            have q3 := Q 3 _ rfl
            clear Q hS hS_ hD
            refine s_gen (V := wideV (mulN (hiN (divN A D)) D)) [.pointer (some ⟨v5_4, 0, none⟩)] (by kernel_rfl) (by kernel_rfl) (by kernel_rfl) ?_
            intro r_ hr_
            have o0_ : r_ (.tmp 11) = .pointer (some ⟨v5_4, 0, none⟩) := op_at hr_ 0 (by kernel_rfl) (by kernel_rfl)
            clear hr_
            go_simp; first | done | with_reducible rfl
          simp only [Act.put, planVG, List.setIfInBounds_toArray, List.set_cons_zero, List.set_cons_succ, List.getElem?_cons_zero, List.getElem?_cons_succ]
          refine ⟨?_, ?_⟩
          · as_aux_lemma =>
            intro y_ hS_ hD
            try clear hS
            clear hS_ hD
            refine s_gcall (V := bitsV (hiN (mulN (hiN (divN A D)) D))) [.func (.func 51) #[] #[], wideV (mulN (hiN (divN A D)) D)] ?_ ?_ (by kernel_rfl) (by kernel_rfl) (by kernel_rfl) ?_ ?_
            rotate_left 2
            · intro r_ hr_
              have o0_ : r_ (.func 51) = .func (.func 51) #[] #[] := op_at hr_ 0 (by kernel_rfl) (by kernel_rfl)
              have o1_ : r_ (.tmp 74) = wideV (mulN (hiN (divN A D)) D) := op_at hr_ 1 (by kernel_rfl) (by kernel_rfl)
              clear hr_
              go_simp; first | done | with_reducible rfl | (constructor <;> with_reducible rfl)
            · refine High_at (IsWide.of (mulN_w (IsBits.of (hi_w (IsWide.of (div_w (IsWide.of hA).w _)).w)).w (IsBits.of hD).w)) _
          simp only [Act.put, planVG, List.setIfInBounds_toArray, List.set_cons_zero, List.set_cons_succ, List.getElem?_cons_zero, List.getElem?_cons_succ]
          refine ⟨?_, ?_⟩
          · as_aux_lemma =>
            intro y_ hS_ hD
            try clear hS
            clear hS_ hD
            refine s_gcall (V := .bool true) [.func (.func 40) #[] #[], bitsV (hiN (mulN (hiN (divN A D)) D))] ?_ ?_ (by kernel_rfl) (by kernel_rfl) (by kernel_rfl) ?_ ?_
            rotate_left 2
            · intro r_ hr_
              have o0_ : r_ (.func 40) = .func (.func 40) #[] #[] := op_at hr_ 0 (by kernel_rfl) (by kernel_rfl)
              have o1_ : r_ (.tmp 75) = bitsV (hiN (mulN (hiN (divN A D)) D)) := op_at hr_ 1 (by kernel_rfl) (by kernel_rfl)
              clear hr_
              go_simp; first | done | with_reducible rfl | (constructor <;> with_reducible rfl)
            · refine calls_to (V := .bool true) (Zero_at (IsBits.of (hi_w (IsWide.of (mulN_w (IsBits.of (hi_w (IsWide.of (div_w (IsWide.of hA).w _)).w)).w (IsBits.of hD).w)).w)) _) (by rw [E7.out])
          simp only [Act.put, planVG, List.setIfInBounds_toArray, List.set_cons_zero, List.set_cons_succ, List.getElem?_cons_zero, List.getElem?_cons_succ]
          refine ⟨?_, ?_⟩
          · as_aux_lemma =>
            intro y_ hS_ hD
            clear hS_ hD
            refine s_gen (V := .bool false) [.bool true] (by kernel_rfl) (by kernel_rfl) (by kernel_rfl) ?_
            intro r_ hr_
            have o0_ : r_ (.tmp 76) = .bool true := op_at hr_ 0 (by kernel_rfl) (by kernel_rfl)
            clear hr_
            go_simp; first | done | with_reducible rfl
          simp only [Act.put, planVG, List.setIfInBounds_toArray, List.set_cons_zero, List.set_cons_succ, List.getElem?_cons_zero, List.getElem?_cons_succ]
          refine ⟨?_, ?_⟩
          · as_aux_lemma =>
            intro y_ hS_ hD
            clear hS_ hD
            refine s_gen (V := .bool false) [.bool false, .bool true, .bool false] (by kernel_rfl) (by kernel_rfl) (by kernel_rfl) ?_
            intro r_ hr_
            have o0_ : r_ (.tmp 73) = .bool false := op_at hr_ 0 (by kernel_rfl) (by kernel_rfl)
            have o1_ : r_ (.const (.bool true)) = .bool true := op_at hr_ 1 (by kernel_rfl) (by kernel_rfl)
            have o2_ : r_ (.tmp 77) = .bool false := op_at hr_ 2 (by kernel_rfl) (by kernel_rfl)
            clear hr_
            go_simp; first | done | with_reducible rfl
          simp only [Act.put, planVG, List.setIfInBounds_toArray, List.set_cons_zero, List.set_cons_succ, List.getElem?_cons_zero, List.getElem?_cons_succ]
          refine ⟨?_, ?_⟩
          · as_aux_lemma =>
            intro y_ hS_ hD
            clear hS_ hD
            refine s_gen (V := .bool false) [.bool false] (by kernel_rfl) (by kernel_rfl) (by kernel_rfl) ?_
            intro r_ hr_
            have o0_ : r_ (.tmp 78) = .bool false := op_at hr_ 0 (by kernel_rfl) (by kernel_rfl)
            clear hr_
            go_simp; first | done | with_reducible rfl
          simp only [Act.put, planVG, List.setIfInBounds_toArray, List.set_cons_zero, List.set_cons_succ, List.getElem?_cons_zero, List.getElem?_cons_succ]
          refine ⟨?_, ?_⟩
          · as_aux_lemma =>
            intro y_ hS_ hD
            have hS := hS_ (by rfl)
            have Q := (hS.2.2.2.2.2.2.2).cell
            have q0 := Q 0 _ rfl
            have q1 := Q 1 _ rfl
            have q2 := Q 2 _ rfl
            have q3 := Q 3 _ rfl
            clear Q hS hS_ hD
            refine s_gen (V := wideV A) [.pointer (some ⟨v7_7, 0, none⟩)] (by kernel_rfl) (by kernel_rfl) (by kernel_rfl) ?_
            intro r_ hr_
            have o0_ : r_ (.tmp 14) = .pointer (some ⟨v7_7, 0, none⟩) := op_at hr_ 0 (by kernel_rfl) (by kernel_rfl)
            clear hr_
            go_simp; first | done | with_reducible rfl
          simp only [Act.put, planVG, List.setIfInBounds_toArray, List.set_cons_zero, List.set_cons_succ, List.getElem?_cons_zero, List.getElem?_cons_succ]
          refine ⟨?_, ?_⟩
          · as_aux_lemma =>
            intro y_ hS_ hD
            have hS := hS_ (by rfl)
            have Q := (hS.2.2.1).cell
            have q0 := Q 0 _ rfl
            have q1 := Q 1 _ rfl
            have q2 := Q 2 _ rfl
            have q3 := Q 3 _ rfl
            clear Q hS hS_ hD
            refine s_gen (V := wideV A) [.pointer (some ⟨w.heap.size, 0, none⟩)] (by kernel_rfl) (by kernel_rfl) (by kernel_rfl) ?_
            intro r_ hr_
            have o0_ : r_ (.tmp 3) = .pointer (some ⟨w.heap.size, 0, none⟩) := op_at hr_ 0 (by kernel_rfl) (by kernel_rfl)
            clear hr_
            go_simp; first | done | with_reducible rfl
          simp only [Act.put, planVG, List.setIfInBounds_toArray, List.set_cons_zero, List.set_cons_succ, List.getElem?_cons_zero, List.getElem?_cons_succ]
          refine ⟨?_, ?_⟩
          · as_aux_lemma =>
            intro y_ hS_ hD
            clear hS_ hD
            refine s_gen (V := .bool false) [wideV A, wideV A] (by kernel_rfl) (by kernel_rfl) (by kernel_rfl) ?_
            intro r_ hr_
            have o0_ : r_ (.tmp 80) = wideV A := op_at hr_ 0 (by kernel_rfl) (by kernel_rfl)
            have o1_ : r_ (.tmp 81) = wideV A := op_at hr_ 1 (by kernel_rfl) (by kernel_rfl)
            clear hr_
            go_simp; first | done | with_reducible rfl
          simp only [Act.put, planVG, List.setIfInBounds_toArray, List.set_cons_zero, List.set_cons_succ, List.getElem?_cons_zero, List.getElem?_cons_succ]
          refine ⟨?_, ?_⟩
          · as_aux_lemma =>
            intro y_ hS_ hD
            clear hS_ hD
            refine s_gen (V := .bool false) [.bool false, .bool true, .bool false] (by kernel_rfl) (by kernel_rfl) (by kernel_rfl) ?_
            intro r_ hr_
            have o0_ : r_ (.tmp 79) = .bool false := op_at hr_ 0 (by kernel_rfl) (by kernel_rfl)
            have o1_ : r_ (.const (.bool true)) = .bool true := op_at hr_ 1 (by kernel_rfl) (by kernel_rfl)
            have o2_ : r_ (.tmp 82) = .bool false := op_at hr_ 2 (by kernel_rfl) (by kernel_rfl)
            clear hr_
            go_simp; first | done | with_reducible rfl
          simp only [Act.put, planVG, List.setIfInBounds_toArray, List.set_cons_zero, List.set_cons_succ, List.getElem?_cons_zero, List.getElem?_cons_succ]
          refine ⟨?_, ?_⟩
          · as_aux_lemma =>
            intro y_ hS_ hD
            clear hS_ hD
            refine s_gen (V := .bool false) [.bool false] (by kernel_rfl) (by kernel_rfl) (by kernel_rfl) ?_
            intro r_ hr_
            have o0_ : r_ (.tmp 83) = .bool false := op_at hr_ 0 (by kernel_rfl) (by kernel_rfl)
            clear hr_
            go_simp; first | done | with_reducible rfl
          simp only [Act.put, planVG, List.setIfInBounds_toArray, List.set_cons_zero, List.set_cons_succ, List.getElem?_cons_zero, List.getElem?_cons_succ]
          refine ⟨?_, ?_⟩
          · as_aux_lemma =>
            intro y_ hS_ hD
            have hS := hS_ (by rfl)
            have Q := (hS.2.2.2.2.2.1).cell
            have q0 := Q 0 _ rfl
            have q1 := Q 1 _ rfl
            clear Q hS hS_ hD
            refine s_gen (V := bitsV (modN A D)) [.pointer (some ⟨w1.heap.size + 1, 0, none⟩)] (by kernel_rfl) (by kernel_rfl) (by kernel_rfl) ?_
            intro r_ hr_
            have o0_ : r_ (.tmp 8) = .pointer (some ⟨w1.heap.size + 1, 0, none⟩) := op_at hr_ 0 (by kernel_rfl) (by kernel_rfl)
            clear hr_
            go_simp; first | done | with_reducible rfl
          simp only [Act.put, planVG, List.setIfInBounds_toArray, List.set_cons_zero, List.set_cons_succ, List.getElem?_cons_zero, List.getElem?_cons_succ]
          refine ⟨?_, ?_⟩
          · as_aux_lemma =>
            intro y_ hS_ hD
            have hS := hS_ (by rfl)
            have Q := (hS.2.2.2.2.1).cell
            have q0 := Q 0 _ rfl
            have q1 := Q 1 _ rfl
            clear Q hS hS_ hD
            refine s_gen (V := bitsV D) [.pointer (some ⟨w.heap.size + 1 + 1, 0, none⟩)] (by kernel_rfl) (by kernel_rfl) (by kernel_rfl) ?_
            intro r_ hr_
            have o0_ : r_ (.tmp 5) = .pointer (some ⟨w.heap.size + 1 + 1, 0, none⟩) := op_at hr_ 0 (by kernel_rfl) (by kernel_rfl)
            clear hr_
            go_simp; first | done | with_reducible rfl
          simp only [Act.put, planVG, List.setIfInBounds_toArray, List.set_cons_zero, List.set_cons_succ, List.getElem?_cons_zero, List.getElem?_cons_succ]
          refine ⟨?_, ?_⟩
          · as_aux_lemma =>
            intro y_ hS_ hD
            try clear hS
            clear hS_ hD
            refine s_gcall (V := .int .i64 (cmpN (modN A D) D)) [.func (.func 42) #[] #[], bitsV (modN A D), bitsV D] ?_ ?_ (by kernel_rfl) (by kernel_rfl) (by kernel_rfl) ?_ ?_
            rotate_left 2
            · intro r_ hr_
              have o0_ : r_ (.func 42) = .func (.func 42) #[] #[] := op_at hr_ 0 (by kernel_rfl) (by kernel_rfl)
              have o1_ : r_ (.tmp 85) = bitsV (modN A D) := op_at hr_ 1 (by kernel_rfl) (by kernel_rfl)
              have o2_ : r_ (.tmp 86) = bitsV D := op_at hr_ 2 (by kernel_rfl) (by kernel_rfl)
              clear hr_
              go_simp; first | done | with_reducible rfl | (constructor <;> with_reducible rfl)
            · refine Cmp_at (IsBits.of (mod_w _ (IsBits.of hD).w h0)) (IsBits.of hD) _
          simp only [Act.put, planVG, List.setIfInBounds_toArray, List.set_cons_zero, List.set_cons_succ, List.getElem?_cons_zero, List.getElem?_cons_succ]
          refine ⟨?_, ?_⟩
          · as_aux_lemma =>
            intro y_ hS_ hD
            clear hS_ hD
            refine s_gen (V := .bool false) [.int .i64 (cmpN (modN A D) D), .int .i64 0] (by kernel_rfl) (by kernel_rfl) (by kernel_rfl) ?_
            intro r_ hr_
            have o0_ : r_ (.tmp 87) = .int .i64 (cmpN (modN A D) D) := op_at hr_ 0 (by kernel_rfl) (by kernel_rfl)
            have o1_ : r_ (.const (.int .i64 0)) = .int .i64 0 := op_at hr_ 1 (by kernel_rfl) (by kernel_rfl)
            clear hr_
            go_simp; first | done | with_reducible rfl
          simp only [Act.put, planVG, List.setIfInBounds_toArray, List.set_cons_zero, List.set_cons_succ, List.getElem?_cons_zero, List.getElem?_cons_succ]
          refine ⟨?_, ?_⟩
          · as_aux_lemma =>
            intro y_ hS_ hD
            clear hS_ hD
            refine s_gen (V := .bool false) [.bool false, .bool true, .bool false] (by kernel_rfl) (by kernel_rfl) (by kernel_rfl) ?_
            intro r_ hr_
            have o0_ : r_ (.tmp 84) = .bool false := op_at hr_ 0 (by kernel_rfl) (by kernel_rfl)
            have o1_ : r_ (.const (.bool true)) = .bool true := op_at hr_ 1 (by kernel_rfl) (by kernel_rfl)
            have o2_ : r_ (.tmp 88) = .bool false := op_at hr_ 2 (by kernel_rfl) (by kernel_rfl)
            clear hr_
            go_simp; first | done | with_reducible rfl
          simp only [Act.put, planVG, List.setIfInBounds_toArray, List.set_cons_zero, List.set_cons_succ, List.getElem?_cons_zero, List.getElem?_cons_succ]
          as_aux_lemma =>
            intro w7 hS hF hD_
            change wpList _ _ _ _ _ _
            replace hS := sg_no (by decide) hS
            obtain ⟨hk, hZ7, X1, X2, X3, X5, Bv5_4, Bv7_7⟩ := hS
            clear hF hD_
            clear ρ
            have hz_w7 := hk.size
            have X1l := X1.lt
            have X1f := X1.free
            have X1l1 : w.heap.size < w7.heap.size + 1 := by omega
            have X1l2 : w.heap.size < w7.heap.size + 1 + 1 := by omega
            have X1l3 : w.heap.size < w7.heap.size + 1 + 1 + 1 := by omega
            have X10 := X1.cell 0 _ rfl
            have X11 := X1.cell 1 _ rfl
            have X12 := X1.cell 2 _ rfl
            have X13 := X1.cell 3 _ rfl
            have X2l := X2.lt
            have X2f := X2.free
            have X2l1 : w.heap.size + 1 < w7.heap.size + 1 := by omega
            have X2l2 : w.heap.size + 1 < w7.heap.size + 1 + 1 := by omega
            have X2l3 : w.heap.size + 1 < w7.heap.size + 1 + 1 + 1 := by omega
            have X20 := X2.cell 0 _ rfl
            have X21 := X2.cell 1 _ rfl
            have X3l := X3.lt
            have X3f := X3.free
            have X3l1 : w.heap.size + 1 + 1 < w7.heap.size + 1 := by omega
            have X3l2 : w.heap.size + 1 + 1 < w7.heap.size + 1 + 1 := by omega
            have X3l3 : w.heap.size + 1 + 1 < w7.heap.size + 1 + 1 + 1 := by omega
            have X30 := X3.cell 0 _ rfl
            have X31 := X3.cell 1 _ rfl
            have X5l := X5.lt
            have X5f := X5.free
            have X5l1 : w1.heap.size + 1 < w7.heap.size + 1 := by omega
            have X5l2 : w1.heap.size + 1 < w7.heap.size + 1 + 1 := by omega
            have X5l3 : w1.heap.size + 1 < w7.heap.size + 1 + 1 + 1 := by omega
            have X50 := X5.cell 0 _ rfl
            have X51 := X5.cell 1 _ rfl
            have Bv5_4l := Bv5_4.lt
            have Bv5_4f := Bv5_4.free
            have Bv5_4l1 : v5_4 < w7.heap.size + 1 := by omega
            have Bv5_4l2 : v5_4 < w7.heap.size + 1 + 1 := by omega
            have Bv5_4l3 : v5_4 < w7.heap.size + 1 + 1 + 1 := by omega
            have Bv5_40 := Bv5_4.cell 0 _ rfl
            have Bv5_41 := Bv5_4.cell 1 _ rfl
            have Bv5_42 := Bv5_4.cell 2 _ rfl
            have Bv5_43 := Bv5_4.cell 3 _ rfl
            have Bv7_7l := Bv7_7.lt
            have Bv7_7f := Bv7_7.free
            have Bv7_7l1 : v7_7 < w7.heap.size + 1 := by omega
            have Bv7_7l2 : v7_7 < w7.heap.size + 1 + 1 := by omega
            have Bv7_7l3 : v7_7 < w7.heap.size + 1 + 1 + 1 := by omega
            have Bv7_70 := Bv7_7.cell 0 _ rfl
            have Bv7_71 := Bv7_7.cell 1 _ rfl
            have Bv7_72 := Bv7_7.cell 2 _ rfl
            have Bv7_73 := Bv7_7.cell 3 _ rfl
            go_wp2
            refine wp_region_g 13 (fun W' => Kept w.heap.size w W' ∧ w7.heap.size ≤ W'.heap.size ∧ Box W' (w.heap.size + 1) #[.int .u64 (limb 1 B), .int .u64 (limb 0 B)] ∧ Box W' (w.heap.size + 1 + 1) #[.int .u64 (limb 1 D), .int .u64 (limb 0 D)]) (fun W' => Kept w.heap.size w W' ∧ w7.heap.size ≤ W'.heap.size ∧ Box W' (w.heap.size + 1) #[.int .u64 (limb 1 B), .int .u64 (limb 0 B)] ∧ Box W' (w.heap.size + 1 + 1) #[.int .u64 (limb 1 D), .int .u64 (limb 0 D)]) 1000 (w7.heap.size) [.known (bitsV B), .known (bitsV D), .known (wideV (mulN B D)), .known (bitsV D), .known (.tuple #[wideV B, .agg #[.int .u64 0, .int .u64 0], .bool true]), .known (.tuple #[wideV B, .agg #[.int .u64 0, .int .u64 0], .bool true]), .known (wideV B), .known (.agg #[.int .u64 0, .int .u64 0]), .known (.bool true), .var #[.int .u64 0, .int .u64 0, .int .u64 0, .int .u64 0] 11 [.int .u64 (limb 0 B), .int .u64 (limb 1 B), .int .u64 (limb 2 B), .int .u64 (limb 3 B)], .var #[.int .u64 0, .int .u64 0] 12 [.int .u64 0, .int .u64 0], .put 9, .put 10] (by kernel_rfl) (by kernel_rfl) (fun W W' h hb => ⟨h.1.step hb, Nat.le_trans (h.2.1) hb.size, Box.call hb (h.2.2.1), Box.call hb (h.2.2.2)⟩) (fun W W' h hb => ⟨h.1.step hb, Nat.le_trans (h.2.1) hb.size, Box.call hb (h.2.2.1), Box.call hb (h.2.2.2)⟩) (no_out (of_decide_eq_true (by kernel_rfl))) (.inr (fun W' b i v hb h => ⟨h.1.setCell (p := ⟨b, i, none⟩) (by simp only []; omega) v, (by rw [World.size_setCell]; exact h.2.1), (h.2.2.1).other (by omega), (h.2.2.2).other (by omega)⟩)) (.inr (fun W' b i v hb h => ⟨h.1.setCell (p := ⟨b, i, none⟩) (by simp only []; omega) v, (by rw [World.size_setCell]; exact h.2.1), (h.2.2.1).other (by omega), (h.2.2.2).other (by omega)⟩)) (fun _ h => h.2.1) (fun _ h => h.2.1) (⟨(by repeat (first | with_reducible exact hk | with_reducible exact Kept.refl _ | with_reducible refine Kept.alloc ?_ _ | with_reducible refine Kept.drew ?_ | with_reducible refine Kept.setCell ?_ (by simp only [World.size_alloc, World.size_setCell, World.size_drew]; omega) _)), (by (try simp only [World.size_alloc, World.size_setCell, World.size_drew]); omega), (by repeat (first | with_reducible assumption | with_reducible apply Box.set10 | with_reducible apply Box.set20 | with_reducible apply Box.set21 | with_reducible apply Box.set40 | with_reducible apply Box.set41 | with_reducible apply Box.set42 | with_reducible apply Box.set43 | with_reducible apply Box.set50 | with_reducible apply Box.set51 | with_reducible apply Box.set52 | with_reducible apply Box.set53 | with_reducible apply Box.set54 | with_reducible apply Box.drew | (with_reducible apply Box.newAt; (try simp only [World.size_alloc, World.size_setCell, World.size_drew]); done) | with_reducible apply Box.alloc | (with_reducible apply Box.other; case hne => ((try simp only [World.size_alloc, World.size_setCell, World.size_drew]); omega)))), (by repeat (first | with_reducible assumption | with_reducible apply Box.set10 | with_reducible apply Box.set20 | with_reducible apply Box.set21 | with_reducible apply Box.set40 | with_reducible apply Box.set41 | with_reducible apply Box.set42 | with_reducible apply Box.set43 | with_reducible apply Box.set50 | with_reducible apply Box.set51 | with_reducible apply Box.set52 | with_reducible apply Box.set53 | with_reducible apply Box.set54 | with_reducible apply Box.drew | (with_reducible apply Box.newAt; (try simp only [World.size_alloc, World.size_setCell, World.size_drew]); done) | with_reducible apply Box.alloc | (with_reducible apply Box.other; case hne => ((try simp only [World.size_alloc, World.size_setCell, World.size_drew]); omega))))⟩) ?_
            clear hk
            clear X1 X1l1 X1l2 X1l3 X1f X10 X11 X12 X13
            clear X2 X2l1 X2l2 X2l3 X2f X20 X21
            clear X3 X3l1 X3l2 X3l3 X3f X30 X31
            clear X5 X5l1 X5l2 X5l3 X5f X50 X51
            clear Bv5_4 Bv5_4l1 Bv5_4l2 Bv5_4l3 Bv5_4f Bv5_40 Bv5_41 Bv5_42 Bv5_43
            clear Bv7_7 Bv7_7l1 Bv7_7l2 Bv7_7l3 Bv7_7f Bv7_70 Bv7_71 Bv7_72 Bv7_73
            intro ρ
            simp only [List.take_succ_cons, List.take_zero, List.drop_succ_cons, List.drop_zero]
            refine ⟨?_, ?_⟩
            · as_aux_lemma =>
              intro y_ hS_ hD
              have hS := hS_ (by rfl)
              have Q := (hS.2.2.1).cell
              have q0 := Q 0 _ rfl
              have q1 := Q 1 _ rfl
              clear Q hS hS_ hD
              refine s_gen (V := bitsV B) [.pointer (some ⟨w.heap.size + 1, 0, none⟩)] (by kernel_rfl) (by kernel_rfl) (by kernel_rfl) ?_
              intro r_ hr_
              have o0_ : r_ (.tmp 4) = .pointer (some ⟨w.heap.size + 1, 0, none⟩) := op_at hr_ 0 (by kernel_rfl) (by kernel_rfl)
              clear hr_
              go_simp; first | done | with_reducible rfl
            simp only [Act.put, planVG, List.setIfInBounds_toArray, List.set_cons_zero, List.set_cons_succ, List.getElem?_cons_zero, List.getElem?_cons_succ]
            refine ⟨?_, ?_⟩
            · as_aux_lemma =>
              intro y_ hS_ hD
              have hS := hS_ (by rfl)
              have Q := (hS.2.2.2).cell
              have q0 := Q 0 _ rfl
              have q1 := Q 1 _ rfl
              clear Q hS hS_ hD
              refine s_gen (V := bitsV D) [.pointer (some ⟨w.heap.size + 1 + 1, 0, none⟩)] (by kernel_rfl) (by kernel_rfl) (by kernel_rfl) ?_
              intro r_ hr_
              have o0_ : r_ (.tmp 5) = .pointer (some ⟨w.heap.size + 1 + 1, 0, none⟩) := op_at hr_ 0 (by kernel_rfl) (by kernel_rfl)
              clear hr_
              go_simp; first | done | with_reducible rfl
            simp only [Act.put, planVG, List.setIfInBounds_toArray, List.set_cons_zero, List.set_cons_succ, List.getElem?_cons_zero, List.getElem?_cons_succ]
            refine ⟨?_, ?_⟩
            · as_aux_lemma =>
              intro y_ hS_ hD
              try clear hS
              clear hS_ hD
              refine s_gcall (V := wideV (mulN B D)) [.func (.func 49) #[] #[], bitsV B, bitsV D] ?_ ?_ (by kernel_rfl) (by kernel_rfl) (by kernel_rfl) ?_ ?_
              rotate_left 2
              · intro r_ hr_
                have o0_ : r_ (.func 49) = .func (.func 49) #[] #[] := op_at hr_ 0 (by kernel_rfl) (by kernel_rfl)
                have o1_ : r_ (.tmp 91) = bitsV B := op_at hr_ 1 (by kernel_rfl) (by kernel_rfl)
                have o2_ : r_ (.tmp 92) = bitsV D := op_at hr_ 2 (by kernel_rfl) (by kernel_rfl)
                clear hr_
                go_simp; first | done | with_reducible rfl | (constructor <;> with_reducible rfl)
              · refine MulW_at (IsBits.of hB) (IsBits.of hD) _
            simp only [Act.put, planVG, List.setIfInBounds_toArray, List.set_cons_zero, List.set_cons_succ, List.getElem?_cons_zero, List.getElem?_cons_succ]
            refine ⟨?_, ?_⟩
            · as_aux_lemma =>
              intro y_ hS_ hD
              have hS := hS_ (by rfl)
              have Q := (hS.2.2.2).cell
              have q0 := Q 0 _ rfl
              have q1 := Q 1 _ rfl
              clear Q hS hS_ hD
              refine s_gen (V := bitsV D) [.pointer (some ⟨w.heap.size + 1 + 1, 0, none⟩)] (by kernel_rfl) (by kernel_rfl) (by kernel_rfl) ?_
              intro r_ hr_
              have o0_ : r_ (.tmp 5) = .pointer (some ⟨w.heap.size + 1 + 1, 0, none⟩) := op_at hr_ 0 (by kernel_rfl) (by kernel_rfl)
              clear hr_
              go_simp; first | done | with_reducible rfl
            simp only [Act.put, planVG, List.setIfInBounds_toArray, List.set_cons_zero, List.set_cons_succ, List.getElem?_cons_zero, List.getElem?_cons_succ]
            refine ⟨?_, ?_⟩
            · as_aux_lemma =>
              intro y_ hS_ hD
              try clear hS
              clear hS_ hD
              refine s_gcall (V := .tuple #[wideV B, .agg #[.int .u64 0, .int .u64 0], .bool true]) [.func (.func 34) #[] #[], wideV (mulN B D), bitsV D] ?_ ?_ (by kernel_rfl) (by kernel_rfl) (by kernel_rfl) ?_ ?_
              rotate_left 2
              · intro r_ hr_
                have o0_ : r_ (.func 34) = .func (.func 34) #[] #[] := op_at hr_ 0 (by kernel_rfl) (by kernel_rfl)
                have o1_ : r_ (.tmp 93) = wideV (mulN B D) := op_at hr_ 1 (by kernel_rfl) (by kernel_rfl)
                have o2_ : r_ (.tmp 94) = bitsV D := op_at hr_ 2 (by kernel_rfl) (by kernel_rfl)
                clear hr_
                go_simp; first | done | with_reducible rfl | (constructor <;> with_reducible rfl)
              · refine calls_to (V := .tuple #[wideV B, .agg #[.int .u64 0, .int .u64 0], .bool true]) (Div_at (IsWide.of (mulN_w (IsBits.of hB).w (IsBits.of hD).w)) (IsBits.of hD) h0 _) (by rw [E3.out, E4.out, Z0.out])
            simp only [Act.put, planVG, List.setIfInBounds_toArray, List.set_cons_zero, List.set_cons_succ, List.getElem?_cons_zero, List.getElem?_cons_succ]
            refine ⟨?_, ?_⟩
            · as_aux_lemma =>
              intro y_ hS_ hD
              clear hS_ hD
              refine s_gen (V := .tuple #[wideV B, .agg #[.int .u64 0, .int .u64 0], .bool true]) [.tuple #[wideV B, .agg #[.int .u64 0, .int .u64 0], .bool true]] (by kernel_rfl) (by kernel_rfl) (by kernel_rfl) ?_
              intro r_ hr_
              have o0_ : r_ (.tmp 95) = .tuple #[wideV B, .agg #[.int .u64 0, .int .u64 0], .bool true] := op_at hr_ 0 (by kernel_rfl) (by kernel_rfl)
              clear hr_
              go_simp; first | done | with_reducible rfl
            simp only [Act.put, planVG, List.setIfInBounds_toArray, List.set_cons_zero, List.set_cons_succ, List.getElem?_cons_zero, List.getElem?_cons_succ]
            refine ⟨?_, ?_⟩
            · as_aux_lemma =>
              intro y_ hS_ hD
              clear hS_ hD
              refine s_gen (V := wideV B) [.tuple #[wideV B, .agg #[.int .u64 0, .int .u64 0], .bool true]] (by kernel_rfl) (by kernel_rfl) (by kernel_rfl) ?_
              intro r_ hr_
              have o0_ : r_ (.tmp 90) = .tuple #[wideV B, .agg #[.int .u64 0, .int .u64 0], .bool true] := op_at hr_ 0 (by kernel_rfl) (by kernel_rfl)
              clear hr_
              go_simp; first | done | with_reducible rfl
            simp only [Act.put, planVG, List.setIfInBounds_toArray, List.set_cons_zero, List.set_cons_succ, List.getElem?_cons_zero, List.getElem?_cons_succ]
            refine ⟨?_, ?_⟩
            · as_aux_lemma =>
              intro y_ hS_ hD
              clear hS_ hD
              refine s_gen (V := .agg #[.int .u64 0, .int .u64 0]) [.tuple #[wideV B, .agg #[.int .u64 0, .int .u64 0], .bool true]] (by kernel_rfl) (by kernel_rfl) (by kernel_rfl) ?_
              intro r_ hr_
              have o0_ : r_ (.tmp 90) = .tuple #[wideV B, .agg #[.int .u64 0, .int .u64 0], .bool true] := op_at hr_ 0 (by kernel_rfl) (by kernel_rfl)
              clear hr_
              go_simp; first | done | with_reducible rfl
            simp only [Act.put, planVG, List.setIfInBounds_toArray, List.set_cons_zero, List.set_cons_succ, List.getElem?_cons_zero, List.getElem?_cons_succ]
            refine ⟨?_, ?_⟩
            · as_aux_lemma =>
              intro y_ hS_ hD
              clear hS_ hD
              refine s_gen (V := .bool true) [.tuple #[wideV B, .agg #[.int .u64 0, .int .u64 0], .bool true]] (by kernel_rfl) (by kernel_rfl) (by kernel_rfl) ?_
              intro r_ hr_
              have o0_ : r_ (.tmp 90) = .tuple #[wideV B, .agg #[.int .u64 0, .int .u64 0], .bool true] := op_at hr_ 0 (by kernel_rfl) (by kernel_rfl)
              clear hr_
              go_simp; first | done | with_reducible rfl
            simp only [Act.put, planVG, List.setIfInBounds_toArray, List.set_cons_zero, List.set_cons_succ, List.getElem?_cons_zero, List.getElem?_cons_succ]
            refine ⟨?_, ?_⟩
            · as_aux_lemma =>
              intro y_ hS_ hD
              clear hS_ hD
              refine s_alloc (by rfl) (by rfl) ?_
              simp only [allocTy]
              go_simp; first | done | with_reducible rfl | rfl
            simp only [Act.put, planVG, List.setIfInBounds_toArray, List.set_cons_zero, List.set_cons_succ, List.getElem?_cons_zero, List.getElem?_cons_succ]
            refine ⟨?_, ?_⟩
            · as_aux_lemma =>
              intro y_ hS_ hD
              clear hS_ hD
              refine s_alloc (by rfl) (by rfl) ?_
              simp only [allocTy]
              go_simp; first | done | with_reducible rfl | rfl
            simp only [Act.put, planVG, List.setIfInBounds_toArray, List.set_cons_zero, List.set_cons_succ, List.getElem?_cons_zero, List.getElem?_cons_succ]
            refine ⟨?_, ?_⟩
            · as_aux_lemma =>
              intro y_ hS_ hD
              have hS := hS_ (by rfl)
              clear hS hS_ hD
              refine s_gput (j := 9) (Z := #[.int .u64 0, .int .u64 0, .int .u64 0, .int .u64 0]) (V := [.int .u64 (limb 0 B), .int .u64 (limb 1 B), .int .u64 (limb 2 B), .int .u64 (limb 3 B)]) [ρ 9, wideV B] (by kernel_rfl) (by kernel_rfl) (by kernel_rfl) (by kernel_rfl) ?_
              intro r_ b hr_ hb hB F
              have o0_ : r_ (.tmp 16) = ρ 9 := op_at hr_ 0 (by kernel_rfl) (by kernel_rfl)
              have o1_ : r_ (.tmp 96) = wideV B := op_at hr_ 1 (by kernel_rfl) (by kernel_rfl)
              clear hr_
              rw [hb] at o0_
              have Q := F.cell
              have q0 := Q 0 _ rfl
              have q1 := Q 1 _ rfl
              have q2 := Q 2 _ rfl
              have q3 := Q 3 _ rfl
              have Qf := F.free
              have Ql := F.lt
              clear Q F
              simp only [putCells]
              go_simp; first | done | with_reducible rfl | rfl
            simp only [Act.put, planVG, List.setIfInBounds_toArray, List.set_cons_zero, List.set_cons_succ, List.getElem?_cons_zero, List.getElem?_cons_succ]
            refine ⟨?_, ?_⟩
            · as_aux_lemma =>
              intro y_ hS_ hD
              have hS := hS_ (by rfl)
              clear hS hS_ hD
              refine s_gput (j := 10) (Z := #[.int .u64 0, .int .u64 0]) (V := [.int .u64 0, .int .u64 0]) [ρ 10, .agg #[.int .u64 0, .int .u64 0]] (by kernel_rfl) (by kernel_rfl) (by kernel_rfl) (by kernel_rfl) ?_
              intro r_ b hr_ hb hB F
              have o0_ : r_ (.tmp 17) = ρ 10 := op_at hr_ 0 (by kernel_rfl) (by kernel_rfl)
              have o1_ : r_ (.tmp 97) = .agg #[.int .u64 0, .int .u64 0] := op_at hr_ 1 (by kernel_rfl) (by kernel_rfl)
              clear hr_
              rw [hb] at o0_
              have Q := F.cell
              have q0 := Q 0 _ rfl
              have q1 := Q 1 _ rfl
              have Qf := F.free
              have Ql := F.lt
              clear Q F
              simp only [putCells]
              go_simp; first | done | with_reducible rfl | rfl
            simp only [Act.put, planVG, List.setIfInBounds_toArray, List.set_cons_zero, List.set_cons_succ, List.getElem?_cons_zero, List.getElem?_cons_succ]
            as_aux_lemma =>
              intro w8 hS hF hD_
              change wpList _ _ _ _ _ _
              replace hS := sg_no (by decide) hS
              obtain ⟨hk, hZ8, X2, X3⟩ := hS
              obtain ⟨v10_9, e_v10_9, hv10_9, Bv10_9⟩ : ∃ b, ρ 9 = .pointer (some ⟨b, 0, none⟩) ∧ w7.heap.size ≤ b ∧ Box w8 b #[.int .u64 (limb 0 B), .int .u64 (limb 1 B), .int .u64 (limb 2 B), .int .u64 (limb 3 B)] := by
                obtain ⟨b, h1, h2, h3⟩ := hF 9 (by decide)
                exact ⟨b, h1, h2, h3.lt, h3.cell, h3.free⟩
              obtain ⟨v10_10, e_v10_10, hv10_10, Bv10_10⟩ : ∃ b, ρ 10 = .pointer (some ⟨b, 0, none⟩) ∧ w7.heap.size ≤ b ∧ Box w8 b #[.int .u64 0, .int .u64 0] := by
                obtain ⟨b, h1, h2, h3⟩ := hF 10 (by decide)
                exact ⟨b, h1, h2, h3.lt, h3.cell, h3.free⟩
              have nv10_9_v10_10 : ¬ v10_9 = v10_10 := fun h => hD_ 9 10 (by decide) (by decide) (by decide) (by rfl) (by rfl) (by rw [e_v10_9, e_v10_10, h])
              have nv10_10_v10_9 : ¬ v10_10 = v10_9 := fun h => nv10_9_v10_10 h.symm
              clear hF hD_
              simp only [e_v10_9]
              clear e_v10_9
              simp only [e_v10_10]
              clear e_v10_10
              clear ρ
              have hz_w8 := hk.size
              have X2l := X2.lt
              have X2f := X2.free
              have X2l1 : w.heap.size + 1 < w8.heap.size + 1 := by omega
              have X2l2 : w.heap.size + 1 < w8.heap.size + 1 + 1 := by omega
              have X2l3 : w.heap.size + 1 < w8.heap.size + 1 + 1 + 1 := by omega
              have X20 := X2.cell 0 _ rfl
              have X21 := X2.cell 1 _ rfl
              have X3l := X3.lt
              have X3f := X3.free
              have X3l1 : w.heap.size + 1 + 1 < w8.heap.size + 1 := by omega
              have X3l2 : w.heap.size + 1 + 1 < w8.heap.size + 1 + 1 := by omega
              have X3l3 : w.heap.size + 1 + 1 < w8.heap.size + 1 + 1 + 1 := by omega
              have X30 := X3.cell 0 _ rfl
              have X31 := X3.cell 1 _ rfl
              have Bv10_9l := Bv10_9.lt
              have Bv10_9f := Bv10_9.free
              have Bv10_9l1 : v10_9 < w8.heap.size + 1 := by omega
              have Bv10_9l2 : v10_9 < w8.heap.size + 1 + 1 := by omega
              have Bv10_9l3 : v10_9 < w8.heap.size + 1 + 1 + 1 := by omega
              have Bv10_90 := Bv10_9.cell 0 _ rfl
              have Bv10_91 := Bv10_9.cell 1 _ rfl
              have Bv10_92 := Bv10_9.cell 2 _ rfl
              have Bv10_93 := Bv10_9.cell 3 _ rfl
              have Bv10_10l := Bv10_10.lt
              have Bv10_10f := Bv10_10.free
              have Bv10_10l1 : v10_10 < w8.heap.size + 1 := by omega
              have Bv10_10l2 : v10_10 < w8.heap.size + 1 + 1 := by omega
              have Bv10_10l3 : v10_10 < w8.heap.size + 1 + 1 + 1 := by omega
              have Bv10_100 := Bv10_10.cell 0 _ rfl
              have Bv10_101 := Bv10_10.cell 1 _ rfl
              go_wp2
              refine wp_region_g 15 (fun W' => Kept w.heap.size w W' ∧ w8.heap.size ≤ W'.heap.size ∧ Box W' (w.heap.size + 1) #[.int .u64 (limb 1 B), .int .u64 (limb 0 B)] ∧ Box W' (v10_9) #[.int .u64 (limb 0 B), .int .u64 (limb 1 B), .int .u64 (limb 2 B), .int .u64 (limb 3 B)] ∧ Box W' (v10_10) #[.int .u64 0, .int .u64 0]) (fun W' => Kept w.heap.size w W' ∧ w8.heap.size ≤ W'.heap.size ∧ Box W' (w.heap.size + 1) #[.int .u64 (limb 1 B), .int .u64 (limb 0 B)] ∧ Box W' (v10_9) #[.int .u64 (limb 0 B), .int .u64 (limb 1 B), .int .u64 (limb 2 B), .int .u64 (limb 3 B)] ∧ Box W' (v10_10) #[.int .u64 0, .int .u64 0]) 1000 (w8.heap.size) [.known (.bool true), .known (.bool true), .known (wideV B), .known (bitsV B), .known (wideV B), .known (.bool true), .known (.bool true), .known (.bool true), .known (.agg #[.int .u64 0, .int .u64 0]), .known (.bool true), .known (.bool true), .known (.bool true), .known (.bool true), .known (.bool true), .known (.bool true)] (by kernel_rfl) (by kernel_rfl) (fun W W' h hb => ⟨h.1.step hb, Nat.le_trans (h.2.1) hb.size, Box.call hb (h.2.2.1), Box.call hb (h.2.2.2.1), Box.call hb (h.2.2.2.2)⟩) (fun W W' h hb => ⟨h.1.step hb, Nat.le_trans (h.2.1) hb.size, Box.call hb (h.2.2.1), Box.call hb (h.2.2.2.1), Box.call hb (h.2.2.2.2)⟩) (no_out (of_decide_eq_true (by kernel_rfl))) (.inl (by kernel_rfl)) (.inl (by kernel_rfl)) (fun _ h => h.2.1) (fun _ h => h.2.1) (⟨(by repeat (first | with_reducible exact hk | with_reducible exact Kept.refl _ | with_reducible refine Kept.alloc ?_ _ | with_reducible refine Kept.drew ?_ | with_reducible refine Kept.setCell ?_ (by simp only [World.size_alloc, World.size_setCell, World.size_drew]; omega) _)), (by (try simp only [World.size_alloc, World.size_setCell, World.size_drew]); omega), (by repeat (first | with_reducible assumption | with_reducible apply Box.set10 | with_reducible apply Box.set20 | with_reducible apply Box.set21 | with_reducible apply Box.set40 | with_reducible apply Box.set41 | with_reducible apply Box.set42 | with_reducible apply Box.set43 | with_reducible apply Box.set50 | with_reducible apply Box.set51 | with_reducible apply Box.set52 | with_reducible apply Box.set53 | with_reducible apply Box.set54 | with_reducible apply Box.drew | (with_reducible apply Box.newAt; (try simp only [World.size_alloc, World.size_setCell, World.size_drew]); done) | with_reducible apply Box.alloc | (with_reducible apply Box.other; case hne => ((try simp only [World.size_alloc, World.size_setCell, World.size_drew]); omega)))), (by repeat (first | with_reducible assumption | with_reducible apply Box.set10 | with_reducible apply Box.set20 | with_reducible apply Box.set21 | with_reducible apply Box.set40 | with_reducible apply Box.set41 | with_reducible apply Box.set42 | with_reducible apply Box.set43 | with_reducible apply Box.set50 | with_reducible apply Box.set51 | with_reducible apply Box.set52 | with_reducible apply Box.set53 | with_reducible apply Box.set54 | with_reducible apply Box.drew | (with_reducible apply Box.newAt; (try simp only [World.size_alloc, World.size_setCell, World.size_drew]); done) | with_reducible apply Box.alloc | (with_reducible apply Box.other; case hne => ((try simp only [World.size_alloc, World.size_setCell, World.size_drew]); omega)))), (by repeat (first | with_reducible assumption | with_reducible apply Box.set10 | with_reducible apply Box.set20 | with_reducible apply Box.set21 | with_reducible apply Box.set40 | with_reducible apply Box.set41 | with_reducible apply Box.set42 | with_reducible apply Box.set43 | with_reducible apply Box.set50 | with_reducible apply Box.set51 | with_reducible apply Box.set52 | with_reducible apply Box.set53 | with_reducible apply Box.set54 | with_reducible apply Box.drew | (with_reducible apply Box.newAt; (try simp only [World.size_alloc, World.size_setCell, World.size_drew]); done) | with_reducible apply Box.alloc | (with_reducible apply Box.other; case hne => ((try simp only [World.size_alloc, World.size_setCell, World.size_drew]); omega))))⟩) ?_
              clear hk
              clear X2 X2l1 X2l2 X2l3 X2f X20 X21
              clear X3 X3l1 X3l2 X3l3 X3f X30 X31
              clear Bv10_9 Bv10_9l1 Bv10_9l2 Bv10_9l3 Bv10_9f Bv10_90 Bv10_91 Bv10_92 Bv10_93
              clear Bv10_10 Bv10_10l1 Bv10_10l2 Bv10_10l3 Bv10_10f Bv10_100 Bv10_101
              intro ρ
              simp only [List.take_succ_cons, List.take_zero, List.drop_succ_cons, List.drop_zero]
              refine ⟨?_, ?_⟩
              · as_aux_lemma =>
                intro y_ hS_ hD
                clear hS_ hD
                refine s_gen (V := .bool true) [.bool true] (by kernel_rfl) (by kernel_rfl) (by kernel_rfl) ?_
                intro r_ hr_
                have o0_ : r_ (.tmp 18) = .bool true := op_at hr_ 0 (by kernel_rfl) (by kernel_rfl)
                clear hr_
                go_simp; first | done | with_reducible rfl
              simp only [Act.put, planVG, List.setIfInBounds_toArray, List.set_cons_zero, List.set_cons_succ, List.getElem?_cons_zero, List.getElem?_cons_succ]
              refine ⟨?_, ?_⟩
              · as_aux_lemma =>
                intro y_ hS_ hD
                clear hS_ hD
                refine s_gen (V := .bool true) [.bool true] (by kernel_rfl) (by kernel_rfl) (by kernel_rfl) ?_
                intro r_ hr_
                have o0_ : r_ (.tmp 99) = .bool true := op_at hr_ 0 (by kernel_rfl) (by kernel_rfl)
                clear hr_
                go_simp; first | done | with_reducible rfl
              simp only [Act.put, planVG, List.setIfInBounds_toArray, List.set_cons_zero, List.set_cons_succ, List.getElem?_cons_zero, List.getElem?_cons_succ]
              refine ⟨?_, ?_⟩
              · as_aux_lemma =>
                intro y_ hS_ hD
                have hS := hS_ (by rfl)
                have Q := (hS.2.2.2.1).cell
                have q0 := Q 0 _ rfl
                have q1 := Q 1 _ rfl
                have q2 := Q 2 _ rfl
                have q3 := Q 3 _ rfl
                clear Q hS hS_ hD
                refine s_gen (V := wideV B) [.pointer (some ⟨v10_9, 0, none⟩)] (by kernel_rfl) (by kernel_rfl) (by kernel_rfl) ?_
                intro r_ hr_
                have o0_ : r_ (.tmp 16) = .pointer (some ⟨v10_9, 0, none⟩) := op_at hr_ 0 (by kernel_rfl) (by kernel_rfl)
                clear hr_
                go_simp; first | done | with_reducible rfl
              simp only [Act.put, planVG, List.setIfInBounds_toArray, List.set_cons_zero, List.set_cons_succ, List.getElem?_cons_zero, List.getElem?_cons_succ]
              refine ⟨?_, ?_⟩
              · as_aux_lemma =>
                intro y_ hS_ hD
                have hS := hS_ (by rfl)
                have Q := (hS.2.2.1).cell
                have q0 := Q 0 _ rfl
                have q1 := Q 1 _ rfl
                clear Q hS hS_ hD
                refine s_gen (V := bitsV B) [.pointer (some ⟨w.heap.size + 1, 0, none⟩)] (by kernel_rfl) (by kernel_rfl) (by kernel_rfl) ?_
                intro r_ hr_
                have o0_ : r_ (.tmp 4) = .pointer (some ⟨w.heap.size + 1, 0, none⟩) := op_at hr_ 0 (by kernel_rfl) (by kernel_rfl)
                clear hr_
                go_simp; first | done | with_reducible rfl
              simp only [Act.put, planVG, List.setIfInBounds_toArray, List.set_cons_zero, List.set_cons_succ, List.getElem?_cons_zero, List.getElem?_cons_succ]
              refine ⟨?_, ?_⟩
              · as_aux_lemma =>
                intro y_ hS_ hD
                try clear hS
                clear hS_ hD
                refine s_gcall (V := wideV B) [.func (.func 44) #[] #[], bitsV B] ?_ ?_ (by kernel_rfl) (by kernel_rfl) (by kernel_rfl) ?_ ?_
                rotate_left 2
                · intro r_ hr_
                  have o0_ : r_ (.func 44) = .func (.func 44) #[] #[] := op_at hr_ 0 (by kernel_rfl) (by kernel_rfl)
                  have o1_ : r_ (.tmp 102) = bitsV B := op_at hr_ 1 (by kernel_rfl) (by kernel_rfl)
                  clear hr_
                  go_simp; first | done | with_reducible rfl | (constructor <;> with_reducible rfl)
                · refine Of_at (IsBits.of hB) _
              simp only [Act.put, planVG, List.setIfInBounds_toArray, List.set_cons_zero, List.set_cons_succ, List.getElem?_cons_zero, List.getElem?_cons_succ]
              refine ⟨?_, ?_⟩
              · as_aux_lemma =>
                intro y_ hS_ hD
                clear hS_ hD
                refine s_gen (V := .bool true) [wideV B, wideV B] (by kernel_rfl) (by kernel_rfl) (by kernel_rfl) ?_
                intro r_ hr_
                have o0_ : r_ (.tmp 101) = wideV B := op_at hr_ 0 (by kernel_rfl) (by kernel_rfl)
                have o1_ : r_ (.tmp 103) = wideV B := op_at hr_ 1 (by kernel_rfl) (by kernel_rfl)
                clear hr_
                go_simp; first | done | with_reducible rfl
              simp only [Act.put, planVG, List.setIfInBounds_toArray, List.set_cons_zero, List.set_cons_succ, List.getElem?_cons_zero, List.getElem?_cons_succ]
              refine ⟨?_, ?_⟩
              · as_aux_lemma =>
                intro y_ hS_ hD
                clear hS_ hD
                refine s_gen (V := .bool true) [.bool true, .bool true, .bool false] (by kernel_rfl) (by kernel_rfl) (by kernel_rfl) ?_
                intro r_ hr_
                have o0_ : r_ (.tmp 100) = .bool true := op_at hr_ 0 (by kernel_rfl) (by kernel_rfl)
                have o1_ : r_ (.tmp 104) = .bool true := op_at hr_ 1 (by kernel_rfl) (by kernel_rfl)
                have o2_ : r_ (.const (.bool false)) = .bool false := op_at hr_ 2 (by kernel_rfl) (by kernel_rfl)
                clear hr_
                go_simp; first | done | with_reducible rfl
              simp only [Act.put, planVG, List.setIfInBounds_toArray, List.set_cons_zero, List.set_cons_succ, List.getElem?_cons_zero, List.getElem?_cons_succ]
              refine ⟨?_, ?_⟩
              · as_aux_lemma =>
                intro y_ hS_ hD
                clear hS_ hD
                refine s_gen (V := .bool true) [.bool true] (by kernel_rfl) (by kernel_rfl) (by kernel_rfl) ?_
                intro r_ hr_
                have o0_ : r_ (.tmp 105) = .bool true := op_at hr_ 0 (by kernel_rfl) (by kernel_rfl)
                clear hr_
                go_simp; first | done | with_reducible rfl
              simp only [Act.put, planVG, List.setIfInBounds_toArray, List.set_cons_zero, List.set_cons_succ, List.getElem?_cons_zero, List.getElem?_cons_succ]
              refine ⟨?_, ?_⟩
              · as_aux_lemma =>
                intro y_ hS_ hD
                have hS := hS_ (by rfl)
                have Q := (hS.2.2.2.2).cell
                have q0 := Q 0 _ rfl
                have q1 := Q 1 _ rfl
                clear Q hS hS_ hD
                refine s_gen (V := .agg #[.int .u64 0, .int .u64 0]) [.pointer (some ⟨v10_10, 0, none⟩)] (by kernel_rfl) (by kernel_rfl) (by kernel_rfl) ?_
                intro r_ hr_
                have o0_ : r_ (.tmp 17) = .pointer (some ⟨v10_10, 0, none⟩) := op_at hr_ 0 (by kernel_rfl) (by kernel_rfl)
                clear hr_
                go_simp; first | done | with_reducible rfl
              simp only [Act.put, planVG, List.setIfInBounds_toArray, List.set_cons_zero, List.set_cons_succ, List.getElem?_cons_zero, List.getElem?_cons_succ]
              refine ⟨?_, ?_⟩
              · as_aux_lemma =>
                intro y_ hS_ hD
                try clear hS
                clear hS_ hD
                refine s_gcall (V := .bool true) [.func (.func 40) #[] #[], .agg #[.int .u64 0, .int .u64 0]] ?_ ?_ (by kernel_rfl) (by kernel_rfl) (by kernel_rfl) ?_ ?_
                rotate_left 2
                · intro r_ hr_
                  have o0_ : r_ (.func 40) = .func (.func 40) #[] #[] := op_at hr_ 0 (by kernel_rfl) (by kernel_rfl)
                  have o1_ : r_ (.tmp 107) = .agg #[.int .u64 0, .int .u64 0] := op_at hr_ 1 (by kernel_rfl) (by kernel_rfl)
                  clear hr_
                  go_simp; first | done | with_reducible rfl | (constructor <;> with_reducible rfl)
                · refine calls_to (V := .bool true) (Zero_at (IsBits.val u64_zero u64_zero) _) (by kernel_rfl)
              simp only [Act.put, planVG, List.setIfInBounds_toArray, List.set_cons_zero, List.set_cons_succ, List.getElem?_cons_zero, List.getElem?_cons_succ]
              refine ⟨?_, ?_⟩
              · as_aux_lemma =>
                intro y_ hS_ hD
                clear hS_ hD
                refine s_gen (V := .bool true) [.bool true, .bool true, .bool false] (by kernel_rfl) (by kernel_rfl) (by kernel_rfl) ?_
                intro r_ hr_
                have o0_ : r_ (.tmp 106) = .bool true := op_at hr_ 0 (by kernel_rfl) (by kernel_rfl)
                have o1_ : r_ (.tmp 108) = .bool true := op_at hr_ 1 (by kernel_rfl) (by kernel_rfl)
                have o2_ : r_ (.const (.bool false)) = .bool false := op_at hr_ 2 (by kernel_rfl) (by kernel_rfl)
                clear hr_
                go_simp; first | done | with_reducible rfl
              simp only [Act.put, planVG, List.setIfInBounds_toArray, List.set_cons_zero, List.set_cons_succ, List.getElem?_cons_zero, List.getElem?_cons_succ]
              refine ⟨?_, ?_⟩
              · as_aux_lemma =>
                intro y_ hS_ hD
                clear hS_ hD
                refine s_gen (V := .bool true) [.bool true] (by kernel_rfl) (by kernel_rfl) (by kernel_rfl) ?_
                intro r_ hr_
                have o0_ : r_ (.tmp 109) = .bool true := op_at hr_ 0 (by kernel_rfl) (by kernel_rfl)
                clear hr_
                go_simp; first | done | with_reducible rfl
              simp only [Act.put, planVG, List.setIfInBounds_toArray, List.set_cons_zero, List.set_cons_succ, List.getElem?_cons_zero, List.getElem?_cons_succ]
              refine ⟨?_, ?_⟩
              · as_aux_lemma =>
                intro y_ hS_ hD
                try clear hS
                clear hS_ hD
                refine s_gcall (V := .bool true) [.func (.func 37) #[] #[]] ?_ ?_ (by kernel_rfl) (by kernel_rfl) (by kernel_rfl) ?_ ?_
                rotate_left 2
                · intro r_ hr_
                  have o0_ : r_ (.func 37) = .func (.func 37) #[] #[] := op_at hr_ 0 (by kernel_rfl) (by kernel_rfl)
                  clear hr_
                  go_simp; first | done | with_reducible rfl | (constructor <;> with_reducible rfl)
                · refine goes05_any _
              simp only [Act.put, planVG, List.setIfInBounds_toArray, List.set_cons_zero, List.set_cons_succ, List.getElem?_cons_zero, List.getElem?_cons_succ]
              refine ⟨?_, ?_⟩
              · as_aux_lemma =>
                intro y_ hS_ hD
                clear hS_ hD
                refine s_gen (V := .bool true) [.bool true, .bool true, .bool false] (by kernel_rfl) (by kernel_rfl) (by kernel_rfl) ?_
                intro r_ hr_
                have o0_ : r_ (.tmp 110) = .bool true := op_at hr_ 0 (by kernel_rfl) (by kernel_rfl)
                have o1_ : r_ (.tmp 111) = .bool true := op_at hr_ 1 (by kernel_rfl) (by kernel_rfl)
                have o2_ : r_ (.const (.bool false)) = .bool false := op_at hr_ 2 (by kernel_rfl) (by kernel_rfl)
                clear hr_
                go_simp; first | done | with_reducible rfl
              simp only [Act.put, planVG, List.setIfInBounds_toArray, List.set_cons_zero, List.set_cons_succ, List.getElem?_cons_zero, List.getElem?_cons_succ]
              refine ⟨?_, ?_⟩
              · as_aux_lemma =>
                intro y_ hS_ hD
                clear hS_ hD
                refine s_gen (V := .bool true) [.bool true] (by kernel_rfl) (by kernel_rfl) (by kernel_rfl) ?_
                intro r_ hr_
                have o0_ : r_ (.tmp 112) = .bool true := op_at hr_ 0 (by kernel_rfl) (by kernel_rfl)
                clear hr_
                go_simp; first | done | with_reducible rfl
              simp only [Act.put, planVG, List.setIfInBounds_toArray, List.set_cons_zero, List.set_cons_succ, List.getElem?_cons_zero, List.getElem?_cons_succ]
              as_aux_lemma =>
                intro w9 hS hF hD_
                change wpList _ _ _ _ _ _
                replace hS := sg_no (by decide) hS
                obtain ⟨hk, hZ9, X2, Bv10_9, Bv10_10⟩ := hS
                clear hF hD_
                clear ρ
                have hz_w9 := hk.size
                have X2l := X2.lt
                have X2f := X2.free
                have X2l1 : w.heap.size + 1 < w9.heap.size + 1 := by omega
                have X2l2 : w.heap.size + 1 < w9.heap.size + 1 + 1 := by omega
                have X2l3 : w.heap.size + 1 < w9.heap.size + 1 + 1 + 1 := by omega
                have X20 := X2.cell 0 _ rfl
                have X21 := X2.cell 1 _ rfl
                have Bv10_9l := Bv10_9.lt
                have Bv10_9f := Bv10_9.free
                have Bv10_9l1 : v10_9 < w9.heap.size + 1 := by omega
                have Bv10_9l2 : v10_9 < w9.heap.size + 1 + 1 := by omega
                have Bv10_9l3 : v10_9 < w9.heap.size + 1 + 1 + 1 := by omega
                have Bv10_90 := Bv10_9.cell 0 _ rfl
                have Bv10_91 := Bv10_9.cell 1 _ rfl
                have Bv10_92 := Bv10_9.cell 2 _ rfl
                have Bv10_93 := Bv10_9.cell 3 _ rfl
                have Bv10_10l := Bv10_10.lt
                have Bv10_10f := Bv10_10.free
                have Bv10_10l1 : v10_10 < w9.heap.size + 1 := by omega
                have Bv10_10l2 : v10_10 < w9.heap.size + 1 + 1 := by omega
                have Bv10_10l3 : v10_10 < w9.heap.size + 1 + 1 + 1 := by omega
                have Bv10_100 := Bv10_10.cell 0 _ rfl
                have Bv10_101 := Bv10_10.cell 1 _ rfl
                go_wp2
                go_ret
                exact ⟨rfl, (by refine Kept.below ?_; repeat (first | with_reducible exact hk | with_reducible exact Kept.refl _ | with_reducible refine Kept.alloc ?_ _ | with_reducible refine Kept.drew ?_ | with_reducible refine Kept.setCell ?_ (by simp only [World.size_alloc, World.size_setCell, World.size_drew]; omega) _))⟩

theorem QuotBack_walk {A B D : Nat} (hA : W256 A) (hB : W128 B) (hD : W128 D) (w : World) :
    Calls Try.prog 15 #[wideV A, bitsV B, bitsV D] w fun e w' => e = .returned (.bool true) ∧ Below w.heap.size w w' := by
  rcases Nat.eq_zero_or_pos D with h0 | h0
  · exact QuotBack_zero hA hB hD h0 w
  · exact QuotBack_more hA hB hD h0 w
end Go.Proofs.Ytjfejldiiijjbaa
