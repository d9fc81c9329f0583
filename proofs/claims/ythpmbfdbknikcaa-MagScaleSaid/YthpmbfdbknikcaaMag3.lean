/- The contract of mag.Cmp. -/
import Derived.Test.YthpmbfdbknikcaaMag2
set_option linter.unusedVariables false
set_option linter.unusedSimpArgs false
namespace Go.Proofs.Ythpmbfdbknikcaa
open Go.RowKit

set_option maxRecDepth 100000 in
set_option maxHeartbeats 8000000 in
theorem Cmp_lt_more {x y : Int} {A B P Q : Nat} {q : Bool} (hA : W256 A) (hB : W256 B) (hP : W256 P) (hQ : W256 Q) (hl : expI x < expI y) (e1 : rightN A (expI y - expI x) = P) (e2 : rightN B (expI y - expI y) = Q) (h2 : lostB A (expI y - expI x) = true) (h3 : lostB B (expI y - expI y) = q) (h1 : cmpN P Q = 0) (w : World) :
    Calls Try.prog 51 #[termV x A, termV y B] w fun e w' => e = .returned (.int .i64 (1)) ∧ Below w.heap.size w w' := by
  have hk := Kept.refl w
  have hx := expI_range x
  have hy := expI_range y
  have E1 := Lib.hid e1; have E2 := Lib.hid e2; have HC := Lib.hid h1; have HP := Lib.hid h2; have HQ := Lib.hid h3
  clear e1 e2 h1 h2 h3
  go_enter Try.func51, Try.ntmps51
  go_wp2
  refine wp_region_g 6 (fun W' => Kept w.heap.size w W' ∧ w.heap.size + 1 + 1 ≤ W'.heap.size ∧ Box W' (w.heap.size) #[.int .i64 (x), .int .u64 (limb 0 A), .int .u64 (limb 1 A), .int .u64 (limb 2 A), .int .u64 (limb 3 A)] ∧ Box W' (w.heap.size + 1) #[.int .i64 (y), .int .u64 (limb 0 B), .int .u64 (limb 1 B), .int .u64 (limb 2 B), .int .u64 (limb 3 B)]) (fun W' => Kept w.heap.size w W' ∧ w.heap.size + 1 + 1 ≤ W'.heap.size ∧ Box W' (w.heap.size) #[.int .i64 (x), .int .u64 (limb 0 A), .int .u64 (limb 1 A), .int .u64 (limb 2 A), .int .u64 (limb 3 A)] ∧ Box W' (w.heap.size + 1) #[.int .i64 (y), .int .u64 (limb 0 B), .int .u64 (limb 1 B), .int .u64 (limb 2 B), .int .u64 (limb 3 B)]) 1000 (w.heap.size + 1 + 1) [.known (termV x A), .known (.int .i64 (expI x)), .known (termV y B), .known (.int .i64 (expI y)), .known (.int .i64 (expI y)), .var #[.int .i64 0] 1000 [.int .i64 0]] (by kernel_rfl) (by kernel_rfl) (fun W W' h hb => ⟨h.1.step hb, Nat.le_trans (h.2.1) hb.size, Box.call hb (h.2.2.1), Box.call hb (h.2.2.2)⟩) (fun W W' h hb => ⟨h.1.step hb, Nat.le_trans (h.2.1) hb.size, Box.call hb (h.2.2.1), Box.call hb (h.2.2.2)⟩) (no_out (of_decide_eq_true (by kernel_rfl))) (.inl (by kernel_rfl)) (.inl (by kernel_rfl)) (fun _ h => h.2.1) (fun _ h => h.2.1) (⟨(by repeat (first | with_reducible exact hk | with_reducible exact Kept.refl _ | with_reducible refine Kept.alloc ?_ _ | with_reducible refine Kept.drew ?_ | with_reducible refine Kept.setCell ?_ (by simp only [World.size_alloc, World.size_setCell, World.size_drew]; omega) _)), (by (try simp only [World.size_alloc, World.size_setCell, World.size_drew]); omega), (by repeat (first | with_reducible assumption | with_reducible apply Box.set10 | with_reducible apply Box.set20 | with_reducible apply Box.set21 | with_reducible apply Box.set40 | with_reducible apply Box.set41 | with_reducible apply Box.set42 | with_reducible apply Box.set43 | with_reducible apply Box.set50 | with_reducible apply Box.set51 | with_reducible apply Box.set52 | with_reducible apply Box.set53 | with_reducible apply Box.set54 | with_reducible apply Box.set80 | with_reducible apply Box.set81 | with_reducible apply Box.set82 | with_reducible apply Box.set83 | with_reducible apply Box.set84 | with_reducible apply Box.set85 | with_reducible apply Box.set86 | with_reducible apply Box.set87 | with_reducible apply Box.drew | (with_reducible apply Box.newAt; (try simp only [World.size_alloc, World.size_setCell, World.size_drew]); done) | with_reducible apply Box.alloc | (with_reducible apply Box.other; case hne => ((try simp only [World.size_alloc, World.size_setCell, World.size_drew]); omega)))), (by repeat (first | with_reducible assumption | with_reducible apply Box.set10 | with_reducible apply Box.set20 | with_reducible apply Box.set21 | with_reducible apply Box.set40 | with_reducible apply Box.set41 | with_reducible apply Box.set42 | with_reducible apply Box.set43 | with_reducible apply Box.set50 | with_reducible apply Box.set51 | with_reducible apply Box.set52 | with_reducible apply Box.set53 | with_reducible apply Box.set54 | with_reducible apply Box.set80 | with_reducible apply Box.set81 | with_reducible apply Box.set82 | with_reducible apply Box.set83 | with_reducible apply Box.set84 | with_reducible apply Box.set85 | with_reducible apply Box.set86 | with_reducible apply Box.set87 | with_reducible apply Box.drew | (with_reducible apply Box.newAt; (try simp only [World.size_alloc, World.size_setCell, World.size_drew]); done) | with_reducible apply Box.alloc | (with_reducible apply Box.other; case hne => ((try simp only [World.size_alloc, World.size_setCell, World.size_drew]); omega))))⟩) ?_
  clear hk
  intro ρ
  simp only [List.take_succ_cons, List.take_zero, List.drop_succ_cons, List.drop_zero]
  refine ⟨?_, ?_⟩
  · as_aux_lemma =>
    intro y_ hS_ hO_ hD
    have Q := ((hS_ (by rfl)).2.2.1).cell
    have q0 := Q 0 _ rfl
    have q1 := Q 1 _ rfl
    have q2 := Q 2 _ rfl
    have q3 := Q 3 _ rfl
    have q4 := Q 4 _ rfl
    clear Q hS_ hO_ hD
    refine s_gen (V := termV x A) [.pointer (some ⟨w.heap.size, 0, none⟩)] (by kernel_rfl) (by kernel_rfl) (by kernel_rfl) ?_
    intro r_ hr_
    have o0_ : r_ (.tmp 2) = .pointer (some ⟨w.heap.size, 0, none⟩) := op_at hr_ 0 (by kernel_rfl) (by kernel_rfl)
    clear hr_
    go_simp; first | done | with_reducible rfl
  simp only [Act.put, planVG, List.setIfInBounds_toArray, List.set_cons_zero, List.set_cons_succ, List.getElem?_cons_zero, List.getElem?_cons_succ]
  refine ⟨?_, ?_⟩
  · as_aux_lemma =>
    intro y_ hS_ hO_ hD
    try clear hS
    clear hS_ hO_ hD
    refine s_gcall (V := .int .i64 (expI x)) [.func (.func 71) #[] #[], termV x A] ?_ ?_ (by kernel_rfl) (by kernel_rfl) (by kernel_rfl) ?_ ?_
    rotate_left 2
    · intro r_ hr_
      have o0_ : r_ (.func 71) = .func (.func 71) #[] #[] := op_at hr_ 0 (by kernel_rfl) (by kernel_rfl)
      have o1_ : r_ (.tmp 12) = termV x A := op_at hr_ 1 (by kernel_rfl) (by kernel_rfl)
      clear hr_
      go_simp; first | done | with_reducible rfl | (constructor <;> with_reducible rfl)
    · refine exp_any x A _
  simp only [Act.put, planVG, List.setIfInBounds_toArray, List.set_cons_zero, List.set_cons_succ, List.getElem?_cons_zero, List.getElem?_cons_succ]
  refine ⟨?_, ?_⟩
  · as_aux_lemma =>
    intro y_ hS_ hO_ hD
    have Q := ((hS_ (by rfl)).2.2.2).cell
    have q0 := Q 0 _ rfl
    have q1 := Q 1 _ rfl
    have q2 := Q 2 _ rfl
    have q3 := Q 3 _ rfl
    have q4 := Q 4 _ rfl
    clear Q hS_ hO_ hD
    refine s_gen (V := termV y B) [.pointer (some ⟨w.heap.size + 1, 0, none⟩)] (by kernel_rfl) (by kernel_rfl) (by kernel_rfl) ?_
    intro r_ hr_
    have o0_ : r_ (.tmp 3) = .pointer (some ⟨w.heap.size + 1, 0, none⟩) := op_at hr_ 0 (by kernel_rfl) (by kernel_rfl)
    clear hr_
    go_simp; first | done | with_reducible rfl
  simp only [Act.put, planVG, List.setIfInBounds_toArray, List.set_cons_zero, List.set_cons_succ, List.getElem?_cons_zero, List.getElem?_cons_succ]
  refine ⟨?_, ?_⟩
  · as_aux_lemma =>
    intro y_ hS_ hO_ hD
    try clear hS
    clear hS_ hO_ hD
    refine s_gcall (V := .int .i64 (expI y)) [.func (.func 71) #[] #[], termV y B] ?_ ?_ (by kernel_rfl) (by kernel_rfl) (by kernel_rfl) ?_ ?_
    rotate_left 2
    · intro r_ hr_
      have o0_ : r_ (.func 71) = .func (.func 71) #[] #[] := op_at hr_ 0 (by kernel_rfl) (by kernel_rfl)
      have o1_ : r_ (.tmp 14) = termV y B := op_at hr_ 1 (by kernel_rfl) (by kernel_rfl)
      clear hr_
      go_simp; first | done | with_reducible rfl | (constructor <;> with_reducible rfl)
    · refine exp_any y B _
  simp only [Act.put, planVG, List.setIfInBounds_toArray, List.set_cons_zero, List.set_cons_succ, List.getElem?_cons_zero, List.getElem?_cons_succ]
  refine ⟨?_, ?_⟩
  · as_aux_lemma =>
    intro y_ hS_ hO_ hD
    clear hS_ hO_ hD
    refine s_gen (V := .int .i64 (expI y)) [.int .i64 (expI x), .int .i64 (expI y)] (by kernel_rfl) (by kernel_rfl) (by kernel_rfl) ?_
    intro r_ hr_
    have o0_ : r_ (.tmp 13) = .int .i64 (expI x) := op_at hr_ 0 (by kernel_rfl) (by kernel_rfl)
    have o1_ : r_ (.tmp 15) = .int .i64 (expI y) := op_at hr_ 1 (by kernel_rfl) (by kernel_rfl)
    clear hr_
    go_simp; first | done | with_reducible rfl | omega
  simp only [Act.put, planVG, List.setIfInBounds_toArray, List.set_cons_zero, List.set_cons_succ, List.getElem?_cons_zero, List.getElem?_cons_succ]
  refine ⟨?_, ?_⟩
  · as_aux_lemma =>
    intro y_ hS_ hO_ hD
    clear hS_ hO_ hD
    refine s_alloc (by rfl) (by rfl) ?_
    simp only [allocTy]
    go_simp; first | done | with_reducible rfl | rfl
  simp only [Act.put, planVG, List.setIfInBounds_toArray, List.set_cons_zero, List.set_cons_succ, List.getElem?_cons_zero, List.getElem?_cons_succ]
  as_aux_lemma =>
    intro w1 hS hF hD_
    change wpList _ _ _ _ _ _
    replace hS := sg_no (by decide) hS
    obtain ⟨hk, hZ1, X1, X2⟩ := hS
    obtain ⟨v1_5, e_v1_5, hv1_5, Bv1_5⟩ : ∃ b, ρ 5 = .pointer (some ⟨b, 0, none⟩) ∧ w.heap.size + 1 + 1 ≤ b ∧ Box w1 b #[.int .i64 0] := by
      obtain ⟨b, h1, h2, h3⟩ := hF 5 (by decide)
      exact ⟨b, h1, h2, h3.lt, h3.cell, h3.free⟩
    clear hF hD_
    simp only [e_v1_5]
    clear e_v1_5
    clear ρ
    have hz_w1 := hk.size
    have X1l := X1.lt
    have X1f := X1.free
    have X1l1 : w.heap.size < w1.heap.size + 1 := by omega
    have X1l2 : w.heap.size < w1.heap.size + 1 + 1 := by omega
    have X1l3 : w.heap.size < w1.heap.size + 1 + 1 + 1 := by omega
    have X10 := X1.cell 0 _ rfl
    have X11 := X1.cell 1 _ rfl
    have X12 := X1.cell 2 _ rfl
    have X13 := X1.cell 3 _ rfl
    have X14 := X1.cell 4 _ rfl
    have X2l := X2.lt
    have X2f := X2.free
    have X2l1 : w.heap.size + 1 < w1.heap.size + 1 := by omega
    have X2l2 : w.heap.size + 1 < w1.heap.size + 1 + 1 := by omega
    have X2l3 : w.heap.size + 1 < w1.heap.size + 1 + 1 + 1 := by omega
    have X20 := X2.cell 0 _ rfl
    have X21 := X2.cell 1 _ rfl
    have X22 := X2.cell 2 _ rfl
    have X23 := X2.cell 3 _ rfl
    have X24 := X2.cell 4 _ rfl
    have Bv1_5l := Bv1_5.lt
    have Bv1_5f := Bv1_5.free
    have Bv1_5l1 : v1_5 < w1.heap.size + 1 := by omega
    have Bv1_5l2 : v1_5 < w1.heap.size + 1 + 1 := by omega
    have Bv1_5l3 : v1_5 < w1.heap.size + 1 + 1 + 1 := by omega
    have Bv1_50 := Bv1_5.cell 0 _ rfl
    go_wp2_with fail
    (with_reducible refine (calls_to (V := .tuple #[wideV P, .bool true]) (part_any hA (by repeat (first | with_reducible assumption | with_reducible apply Box.set10 | with_reducible apply Box.set20 | with_reducible apply Box.set21 | with_reducible apply Box.set40 | with_reducible apply Box.set41 | with_reducible apply Box.set42 | with_reducible apply Box.set43 | with_reducible apply Box.set50 | with_reducible apply Box.set51 | with_reducible apply Box.set52 | with_reducible apply Box.set53 | with_reducible apply Box.set54 | with_reducible apply Box.set80 | with_reducible apply Box.set81 | with_reducible apply Box.set82 | with_reducible apply Box.set83 | with_reducible apply Box.set84 | with_reducible apply Box.set85 | with_reducible apply Box.set86 | with_reducible apply Box.set87 | with_reducible apply Box.drew | (with_reducible apply Box.newAt; (try simp only [World.size_alloc, World.size_setCell, World.size_drew]); done) | with_reducible apply Box.alloc | (with_reducible apply Box.other; case hne => ((try simp only [World.size_alloc, World.size_setCell, World.size_drew]); omega))) : Box _ (v1_5) #[.int .i64 (expI y)]) (by omega) (by omega) (x := x)) (by rw [E1.out, HP.out])).mono ?_)
    rintro e w2 ⟨rfl, hb⟩
    have X2' : Box w2 (w.heap.size + 1) #[.int .i64 (y), .int .u64 (limb 0 B), .int .u64 (limb 1 B), .int .u64 (limb 2 B), .int .u64 (limb 3 B)] := Box.call hb (by repeat (first | with_reducible assumption | with_reducible apply Box.set10 | with_reducible apply Box.set20 | with_reducible apply Box.set21 | with_reducible apply Box.set40 | with_reducible apply Box.set41 | with_reducible apply Box.set42 | with_reducible apply Box.set43 | with_reducible apply Box.set50 | with_reducible apply Box.set51 | with_reducible apply Box.set52 | with_reducible apply Box.set53 | with_reducible apply Box.set54 | with_reducible apply Box.set80 | with_reducible apply Box.set81 | with_reducible apply Box.set82 | with_reducible apply Box.set83 | with_reducible apply Box.set84 | with_reducible apply Box.set85 | with_reducible apply Box.set86 | with_reducible apply Box.set87 | with_reducible apply Box.drew | (with_reducible apply Box.newAt; (try simp only [World.size_alloc, World.size_setCell, World.size_drew]); done) | with_reducible apply Box.alloc | (with_reducible apply Box.other; case hne => ((try simp only [World.size_alloc, World.size_setCell, World.size_drew]); omega))))
    have Bv1_5' : Box w2 (v1_5) #[.int .i64 (expI y)] := Box.call hb (by repeat (first | with_reducible assumption | with_reducible apply Box.set10 | with_reducible apply Box.set20 | with_reducible apply Box.set21 | with_reducible apply Box.set40 | with_reducible apply Box.set41 | with_reducible apply Box.set42 | with_reducible apply Box.set43 | with_reducible apply Box.set50 | with_reducible apply Box.set51 | with_reducible apply Box.set52 | with_reducible apply Box.set53 | with_reducible apply Box.set54 | with_reducible apply Box.set80 | with_reducible apply Box.set81 | with_reducible apply Box.set82 | with_reducible apply Box.set83 | with_reducible apply Box.set84 | with_reducible apply Box.set85 | with_reducible apply Box.set86 | with_reducible apply Box.set87 | with_reducible apply Box.drew | (with_reducible apply Box.newAt; (try simp only [World.size_alloc, World.size_setCell, World.size_drew]); done) | with_reducible apply Box.alloc | (with_reducible apply Box.other; case hne => ((try simp only [World.size_alloc, World.size_setCell, World.size_drew]); omega))))
    have hk' : Kept w.heap.size w w2 := Kept.step (by repeat (first | with_reducible exact hk | with_reducible exact Kept.refl _ | with_reducible refine Kept.alloc ?_ _ | with_reducible refine Kept.drew ?_ | with_reducible refine Kept.setCell ?_ (by simp only [World.size_alloc, World.size_setCell, World.size_drew]; omega) _)) hb
    clear hk hb
    clear X1 X1l1 X1l2 X1l3 X1f X10 X11 X12 X13 X14
    clear X2 X2l1 X2l2 X2l3 X2f X20 X21 X22 X23 X24
    clear Bv1_5 Bv1_5l1 Bv1_5l2 Bv1_5l3 Bv1_5f Bv1_50
    have X2 := X2'
    clear X2'
    have Bv1_5 := Bv1_5'
    clear Bv1_5'
    have hk := hk'
    clear hk'
    have hz_w2 := hk.size
    have X2l := X2.lt
    have X2f := X2.free
    have X2l1 : w.heap.size + 1 < w2.heap.size + 1 := by omega
    have X2l2 : w.heap.size + 1 < w2.heap.size + 1 + 1 := by omega
    have X2l3 : w.heap.size + 1 < w2.heap.size + 1 + 1 + 1 := by omega
    have X20 := X2.cell 0 _ rfl
    have X21 := X2.cell 1 _ rfl
    have X22 := X2.cell 2 _ rfl
    have X23 := X2.cell 3 _ rfl
    have X24 := X2.cell 4 _ rfl
    have Bv1_5l := Bv1_5.lt
    have Bv1_5f := Bv1_5.free
    have Bv1_5l1 : v1_5 < w2.heap.size + 1 := by omega
    have Bv1_5l2 : v1_5 < w2.heap.size + 1 + 1 := by omega
    have Bv1_5l3 : v1_5 < w2.heap.size + 1 + 1 + 1 := by omega
    have Bv1_50 := Bv1_5.cell 0 _ rfl
    go_wp2_with fail
    (with_reducible refine (calls_to (V := .tuple #[wideV Q, .bool (q)]) (part_any hB (by repeat (first | with_reducible assumption | with_reducible apply Box.set10 | with_reducible apply Box.set20 | with_reducible apply Box.set21 | with_reducible apply Box.set40 | with_reducible apply Box.set41 | with_reducible apply Box.set42 | with_reducible apply Box.set43 | with_reducible apply Box.set50 | with_reducible apply Box.set51 | with_reducible apply Box.set52 | with_reducible apply Box.set53 | with_reducible apply Box.set54 | with_reducible apply Box.set80 | with_reducible apply Box.set81 | with_reducible apply Box.set82 | with_reducible apply Box.set83 | with_reducible apply Box.set84 | with_reducible apply Box.set85 | with_reducible apply Box.set86 | with_reducible apply Box.set87 | with_reducible apply Box.drew | (with_reducible apply Box.newAt; (try simp only [World.size_alloc, World.size_setCell, World.size_drew]); done) | with_reducible apply Box.alloc | (with_reducible apply Box.other; case hne => ((try simp only [World.size_alloc, World.size_setCell, World.size_drew]); omega))) : Box _ (v1_5) #[.int .i64 (expI y)]) (by omega) (by omega) (x := y)) (by rw [E2.out, HQ.out])).mono ?_)
    rintro e w3 ⟨rfl, hb⟩
    have Bv1_5' : Box w3 (v1_5) #[.int .i64 (expI y)] := Box.call hb (by repeat (first | with_reducible assumption | with_reducible apply Box.set10 | with_reducible apply Box.set20 | with_reducible apply Box.set21 | with_reducible apply Box.set40 | with_reducible apply Box.set41 | with_reducible apply Box.set42 | with_reducible apply Box.set43 | with_reducible apply Box.set50 | with_reducible apply Box.set51 | with_reducible apply Box.set52 | with_reducible apply Box.set53 | with_reducible apply Box.set54 | with_reducible apply Box.set80 | with_reducible apply Box.set81 | with_reducible apply Box.set82 | with_reducible apply Box.set83 | with_reducible apply Box.set84 | with_reducible apply Box.set85 | with_reducible apply Box.set86 | with_reducible apply Box.set87 | with_reducible apply Box.drew | (with_reducible apply Box.newAt; (try simp only [World.size_alloc, World.size_setCell, World.size_drew]); done) | with_reducible apply Box.alloc | (with_reducible apply Box.other; case hne => ((try simp only [World.size_alloc, World.size_setCell, World.size_drew]); omega))))
    have X3' : Box w3 (w2.heap.size) #[.int .u64 (limb 0 P), .int .u64 (limb 1 P), .int .u64 (limb 2 P), .int .u64 (limb 3 P)] := Box.call hb (by repeat (first | with_reducible assumption | with_reducible apply Box.set10 | with_reducible apply Box.set20 | with_reducible apply Box.set21 | with_reducible apply Box.set40 | with_reducible apply Box.set41 | with_reducible apply Box.set42 | with_reducible apply Box.set43 | with_reducible apply Box.set50 | with_reducible apply Box.set51 | with_reducible apply Box.set52 | with_reducible apply Box.set53 | with_reducible apply Box.set54 | with_reducible apply Box.set80 | with_reducible apply Box.set81 | with_reducible apply Box.set82 | with_reducible apply Box.set83 | with_reducible apply Box.set84 | with_reducible apply Box.set85 | with_reducible apply Box.set86 | with_reducible apply Box.set87 | with_reducible apply Box.drew | (with_reducible apply Box.newAt; (try simp only [World.size_alloc, World.size_setCell, World.size_drew]); done) | with_reducible apply Box.alloc | (with_reducible apply Box.other; case hne => ((try simp only [World.size_alloc, World.size_setCell, World.size_drew]); omega))))
    have hk' : Kept w.heap.size w w3 := Kept.step (by repeat (first | with_reducible exact hk | with_reducible exact Kept.refl _ | with_reducible refine Kept.alloc ?_ _ | with_reducible refine Kept.drew ?_ | with_reducible refine Kept.setCell ?_ (by simp only [World.size_alloc, World.size_setCell, World.size_drew]; omega) _)) hb
    clear hk hb
    clear X2 X2l1 X2l2 X2l3 X2f X20 X21 X22 X23 X24
    clear Bv1_5 Bv1_5l1 Bv1_5l2 Bv1_5l3 Bv1_5f Bv1_50
    have Bv1_5 := Bv1_5'
    clear Bv1_5'
    have X3 := X3'
    clear X3'
    have hk := hk'
    clear hk'
    have hz_w3 := hk.size
    have Bv1_5l := Bv1_5.lt
    have Bv1_5f := Bv1_5.free
    have Bv1_5l1 : v1_5 < w3.heap.size + 1 := by omega
    have Bv1_5l2 : v1_5 < w3.heap.size + 1 + 1 := by omega
    have Bv1_5l3 : v1_5 < w3.heap.size + 1 + 1 + 1 := by omega
    have Bv1_50 := Bv1_5.cell 0 _ rfl
    have X3l := X3.lt
    have X3f := X3.free
    have X3l1 : w2.heap.size < w3.heap.size + 1 := by omega
    have X3l2 : w2.heap.size < w3.heap.size + 1 + 1 := by omega
    have X3l3 : w2.heap.size < w3.heap.size + 1 + 1 + 1 := by omega
    have X30 := X3.cell 0 _ rfl
    have X31 := X3.cell 1 _ rfl
    have X32 := X3.cell 2 _ rfl
    have X33 := X3.cell 3 _ rfl
    go_wp2_with fail
    (with_reducible refine (calls_to (V := .int .i64 0) (CmpW_at (IsWide.of hP) (IsWide.of hQ) _) (by rw [HC.out])).mono ?_)
    rintro e w4 ⟨rfl, hb⟩
    have hk' : Kept w.heap.size w w4 := Kept.step (by repeat (first | with_reducible exact hk | with_reducible exact Kept.refl _ | with_reducible refine Kept.alloc ?_ _ | with_reducible refine Kept.drew ?_ | with_reducible refine Kept.setCell ?_ (by simp only [World.size_alloc, World.size_setCell, World.size_drew]; omega) _)) hb
    clear hk hb
    clear Bv1_5 Bv1_5l1 Bv1_5l2 Bv1_5l3 Bv1_5f Bv1_50
    clear X3 X3l1 X3l2 X3l3 X3f X30 X31 X32 X33
    have hk := hk'
    clear hk'
    have hz_w4 := hk.size
    go_wp2
    go_ret
    exact ⟨rfl, (by refine Kept.below ?_; repeat (first | with_reducible exact hk | with_reducible exact Kept.refl _ | with_reducible refine Kept.alloc ?_ _ | with_reducible refine Kept.drew ?_ | with_reducible refine Kept.setCell ?_ (by simp only [World.size_alloc, World.size_setCell, World.size_drew]; omega) _))⟩

set_option maxRecDepth 100000 in
set_option maxHeartbeats 8000000 in
theorem Cmp_lt_also {x y : Int} {A B P Q : Nat} (hA : W256 A) (hB : W256 B) (hP : W256 P) (hQ : W256 Q) (hl : expI x < expI y) (e1 : rightN A (expI y - expI x) = P) (e2 : rightN B (expI y - expI y) = Q) (h2 : lostB A (expI y - expI x) = false) (h3 : lostB B (expI y - expI y) = true) (h1 : cmpN P Q = 0) (w : World) :
    Calls Try.prog 51 #[termV x A, termV y B] w fun e w' => e = .returned (.int .i64 (-1)) ∧ Below w.heap.size w w' := by
  have hk := Kept.refl w
  have hx := expI_range x
  have hy := expI_range y
  have E1 := Lib.hid e1; have E2 := Lib.hid e2; have HC := Lib.hid h1; have HP := Lib.hid h2; have HQ := Lib.hid h3
  clear e1 e2 h1 h2 h3
  go_enter Try.func51, Try.ntmps51
  go_wp2
  refine wp_region_g 6 (fun W' => Kept w.heap.size w W' ∧ w.heap.size + 1 + 1 ≤ W'.heap.size ∧ Box W' (w.heap.size) #[.int .i64 (x), .int .u64 (limb 0 A), .int .u64 (limb 1 A), .int .u64 (limb 2 A), .int .u64 (limb 3 A)] ∧ Box W' (w.heap.size + 1) #[.int .i64 (y), .int .u64 (limb 0 B), .int .u64 (limb 1 B), .int .u64 (limb 2 B), .int .u64 (limb 3 B)]) (fun W' => Kept w.heap.size w W' ∧ w.heap.size + 1 + 1 ≤ W'.heap.size ∧ Box W' (w.heap.size) #[.int .i64 (x), .int .u64 (limb 0 A), .int .u64 (limb 1 A), .int .u64 (limb 2 A), .int .u64 (limb 3 A)] ∧ Box W' (w.heap.size + 1) #[.int .i64 (y), .int .u64 (limb 0 B), .int .u64 (limb 1 B), .int .u64 (limb 2 B), .int .u64 (limb 3 B)]) 1000 (w.heap.size + 1 + 1) [.known (termV x A), .known (.int .i64 (expI x)), .known (termV y B), .known (.int .i64 (expI y)), .known (.int .i64 (expI y)), .var #[.int .i64 0] 1000 [.int .i64 0]] (by kernel_rfl) (by kernel_rfl) (fun W W' h hb => ⟨h.1.step hb, Nat.le_trans (h.2.1) hb.size, Box.call hb (h.2.2.1), Box.call hb (h.2.2.2)⟩) (fun W W' h hb => ⟨h.1.step hb, Nat.le_trans (h.2.1) hb.size, Box.call hb (h.2.2.1), Box.call hb (h.2.2.2)⟩) (no_out (of_decide_eq_true (by kernel_rfl))) (.inl (by kernel_rfl)) (.inl (by kernel_rfl)) (fun _ h => h.2.1) (fun _ h => h.2.1) (⟨(by repeat (first | with_reducible exact hk | with_reducible exact Kept.refl _ | with_reducible refine Kept.alloc ?_ _ | with_reducible refine Kept.drew ?_ | with_reducible refine Kept.setCell ?_ (by simp only [World.size_alloc, World.size_setCell, World.size_drew]; omega) _)), (by (try simp only [World.size_alloc, World.size_setCell, World.size_drew]); omega), (by repeat (first | with_reducible assumption | with_reducible apply Box.set10 | with_reducible apply Box.set20 | with_reducible apply Box.set21 | with_reducible apply Box.set40 | with_reducible apply Box.set41 | with_reducible apply Box.set42 | with_reducible apply Box.set43 | with_reducible apply Box.set50 | with_reducible apply Box.set51 | with_reducible apply Box.set52 | with_reducible apply Box.set53 | with_reducible apply Box.set54 | with_reducible apply Box.set80 | with_reducible apply Box.set81 | with_reducible apply Box.set82 | with_reducible apply Box.set83 | with_reducible apply Box.set84 | with_reducible apply Box.set85 | with_reducible apply Box.set86 | with_reducible apply Box.set87 | with_reducible apply Box.drew | (with_reducible apply Box.newAt; (try simp only [World.size_alloc, World.size_setCell, World.size_drew]); done) | with_reducible apply Box.alloc | (with_reducible apply Box.other; case hne => ((try simp only [World.size_alloc, World.size_setCell, World.size_drew]); omega)))), (by repeat (first | with_reducible assumption | with_reducible apply Box.set10 | with_reducible apply Box.set20 | with_reducible apply Box.set21 | with_reducible apply Box.set40 | with_reducible apply Box.set41 | with_reducible apply Box.set42 | with_reducible apply Box.set43 | with_reducible apply Box.set50 | with_reducible apply Box.set51 | with_reducible apply Box.set52 | with_reducible apply Box.set53 | with_reducible apply Box.set54 | with_reducible apply Box.set80 | with_reducible apply Box.set81 | with_reducible apply Box.set82 | with_reducible apply Box.set83 | with_reducible apply Box.set84 | with_reducible apply Box.set85 | with_reducible apply Box.set86 | with_reducible apply Box.set87 | with_reducible apply Box.drew | (with_reducible apply Box.newAt; (try simp only [World.size_alloc, World.size_setCell, World.size_drew]); done) | with_reducible apply Box.alloc | (with_reducible apply Box.other; case hne => ((try simp only [World.size_alloc, World.size_setCell, World.size_drew]); omega))))⟩) ?_
  clear hk
  intro ρ
  simp only [List.take_succ_cons, List.take_zero, List.drop_succ_cons, List.drop_zero]
  refine ⟨?_, ?_⟩
  · as_aux_lemma =>
    intro y_ hS_ hO_ hD
    have Q := ((hS_ (by rfl)).2.2.1).cell
    have q0 := Q 0 _ rfl
    have q1 := Q 1 _ rfl
    have q2 := Q 2 _ rfl
    have q3 := Q 3 _ rfl
    have q4 := Q 4 _ rfl
    clear Q hS_ hO_ hD
    refine s_gen (V := termV x A) [.pointer (some ⟨w.heap.size, 0, none⟩)] (by kernel_rfl) (by kernel_rfl) (by kernel_rfl) ?_
    intro r_ hr_
    have o0_ : r_ (.tmp 2) = .pointer (some ⟨w.heap.size, 0, none⟩) := op_at hr_ 0 (by kernel_rfl) (by kernel_rfl)
    clear hr_
    go_simp; first | done | with_reducible rfl
  simp only [Act.put, planVG, List.setIfInBounds_toArray, List.set_cons_zero, List.set_cons_succ, List.getElem?_cons_zero, List.getElem?_cons_succ]
  refine ⟨?_, ?_⟩
  · as_aux_lemma =>
    intro y_ hS_ hO_ hD
    try clear hS
    clear hS_ hO_ hD
    refine s_gcall (V := .int .i64 (expI x)) [.func (.func 71) #[] #[], termV x A] ?_ ?_ (by kernel_rfl) (by kernel_rfl) (by kernel_rfl) ?_ ?_
    rotate_left 2
    · intro r_ hr_
      have o0_ : r_ (.func 71) = .func (.func 71) #[] #[] := op_at hr_ 0 (by kernel_rfl) (by kernel_rfl)
      have o1_ : r_ (.tmp 12) = termV x A := op_at hr_ 1 (by kernel_rfl) (by kernel_rfl)
      clear hr_
      go_simp; first | done | with_reducible rfl | (constructor <;> with_reducible rfl)
    · refine exp_any x A _
  simp only [Act.put, planVG, List.setIfInBounds_toArray, List.set_cons_zero, List.set_cons_succ, List.getElem?_cons_zero, List.getElem?_cons_succ]
  refine ⟨?_, ?_⟩
  · as_aux_lemma =>
    intro y_ hS_ hO_ hD
    have Q := ((hS_ (by rfl)).2.2.2).cell
    have q0 := Q 0 _ rfl
    have q1 := Q 1 _ rfl
    have q2 := Q 2 _ rfl
    have q3 := Q 3 _ rfl
    have q4 := Q 4 _ rfl
    clear Q hS_ hO_ hD
    refine s_gen (V := termV y B) [.pointer (some ⟨w.heap.size + 1, 0, none⟩)] (by kernel_rfl) (by kernel_rfl) (by kernel_rfl) ?_
    intro r_ hr_
    have o0_ : r_ (.tmp 3) = .pointer (some ⟨w.heap.size + 1, 0, none⟩) := op_at hr_ 0 (by kernel_rfl) (by kernel_rfl)
    clear hr_
    go_simp; first | done | with_reducible rfl
  simp only [Act.put, planVG, List.setIfInBounds_toArray, List.set_cons_zero, List.set_cons_succ, List.getElem?_cons_zero, List.getElem?_cons_succ]
  refine ⟨?_, ?_⟩
  · as_aux_lemma =>
    intro y_ hS_ hO_ hD
    try clear hS
    clear hS_ hO_ hD
    refine s_gcall (V := .int .i64 (expI y)) [.func (.func 71) #[] #[], termV y B] ?_ ?_ (by kernel_rfl) (by kernel_rfl) (by kernel_rfl) ?_ ?_
    rotate_left 2
    · intro r_ hr_
      have o0_ : r_ (.func 71) = .func (.func 71) #[] #[] := op_at hr_ 0 (by kernel_rfl) (by kernel_rfl)
      have o1_ : r_ (.tmp 14) = termV y B := op_at hr_ 1 (by kernel_rfl) (by kernel_rfl)
      clear hr_
      go_simp; first | done | with_reducible rfl | (constructor <;> with_reducible rfl)
    · refine exp_any y B _
  simp only [Act.put, planVG, List.setIfInBounds_toArray, List.set_cons_zero, List.set_cons_succ, List.getElem?_cons_zero, List.getElem?_cons_succ]
  refine ⟨?_, ?_⟩
  · as_aux_lemma =>
    intro y_ hS_ hO_ hD
    clear hS_ hO_ hD
    refine s_gen (V := .int .i64 (expI y)) [.int .i64 (expI x), .int .i64 (expI y)] (by kernel_rfl) (by kernel_rfl) (by kernel_rfl) ?_
    intro r_ hr_
    have o0_ : r_ (.tmp 13) = .int .i64 (expI x) := op_at hr_ 0 (by kernel_rfl) (by kernel_rfl)
    have o1_ : r_ (.tmp 15) = .int .i64 (expI y) := op_at hr_ 1 (by kernel_rfl) (by kernel_rfl)
    clear hr_
    go_simp; first | done | with_reducible rfl | omega
  simp only [Act.put, planVG, List.setIfInBounds_toArray, List.set_cons_zero, List.set_cons_succ, List.getElem?_cons_zero, List.getElem?_cons_succ]
  refine ⟨?_, ?_⟩
  · as_aux_lemma =>
    intro y_ hS_ hO_ hD
    clear hS_ hO_ hD
    refine s_alloc (by rfl) (by rfl) ?_
    simp only [allocTy]
    go_simp; first | done | with_reducible rfl | rfl
  simp only [Act.put, planVG, List.setIfInBounds_toArray, List.set_cons_zero, List.set_cons_succ, List.getElem?_cons_zero, List.getElem?_cons_succ]
  as_aux_lemma =>
    intro w1 hS hF hD_
    change wpList _ _ _ _ _ _
    replace hS := sg_no (by decide) hS
    obtain ⟨hk, hZ1, X1, X2⟩ := hS
    obtain ⟨v1_5, e_v1_5, hv1_5, Bv1_5⟩ : ∃ b, ρ 5 = .pointer (some ⟨b, 0, none⟩) ∧ w.heap.size + 1 + 1 ≤ b ∧ Box w1 b #[.int .i64 0] := by
      obtain ⟨b, h1, h2, h3⟩ := hF 5 (by decide)
      exact ⟨b, h1, h2, h3.lt, h3.cell, h3.free⟩
    clear hF hD_
    simp only [e_v1_5]
    clear e_v1_5
    clear ρ
    have hz_w1 := hk.size
    have X1l := X1.lt
    have X1f := X1.free
    have X1l1 : w.heap.size < w1.heap.size + 1 := by omega
    have X1l2 : w.heap.size < w1.heap.size + 1 + 1 := by omega
    have X1l3 : w.heap.size < w1.heap.size + 1 + 1 + 1 := by omega
    have X10 := X1.cell 0 _ rfl
    have X11 := X1.cell 1 _ rfl
    have X12 := X1.cell 2 _ rfl
    have X13 := X1.cell 3 _ rfl
    have X14 := X1.cell 4 _ rfl
    have X2l := X2.lt
    have X2f := X2.free
    have X2l1 : w.heap.size + 1 < w1.heap.size + 1 := by omega
    have X2l2 : w.heap.size + 1 < w1.heap.size + 1 + 1 := by omega
    have X2l3 : w.heap.size + 1 < w1.heap.size + 1 + 1 + 1 := by omega
    have X20 := X2.cell 0 _ rfl
    have X21 := X2.cell 1 _ rfl
    have X22 := X2.cell 2 _ rfl
    have X23 := X2.cell 3 _ rfl
    have X24 := X2.cell 4 _ rfl
    have Bv1_5l := Bv1_5.lt
    have Bv1_5f := Bv1_5.free
    have Bv1_5l1 : v1_5 < w1.heap.size + 1 := by omega
    have Bv1_5l2 : v1_5 < w1.heap.size + 1 + 1 := by omega
    have Bv1_5l3 : v1_5 < w1.heap.size + 1 + 1 + 1 := by omega
    have Bv1_50 := Bv1_5.cell 0 _ rfl
    go_wp2_with fail
    (with_reducible refine (calls_to (V := .tuple #[wideV P, .bool false]) (part_any hA (by repeat (first | with_reducible assumption | with_reducible apply Box.set10 | with_reducible apply Box.set20 | with_reducible apply Box.set21 | with_reducible apply Box.set40 | with_reducible apply Box.set41 | with_reducible apply Box.set42 | with_reducible apply Box.set43 | with_reducible apply Box.set50 | with_reducible apply Box.set51 | with_reducible apply Box.set52 | with_reducible apply Box.set53 | with_reducible apply Box.set54 | with_reducible apply Box.set80 | with_reducible apply Box.set81 | with_reducible apply Box.set82 | with_reducible apply Box.set83 | with_reducible apply Box.set84 | with_reducible apply Box.set85 | with_reducible apply Box.set86 | with_reducible apply Box.set87 | with_reducible apply Box.drew | (with_reducible apply Box.newAt; (try simp only [World.size_alloc, World.size_setCell, World.size_drew]); done) | with_reducible apply Box.alloc | (with_reducible apply Box.other; case hne => ((try simp only [World.size_alloc, World.size_setCell, World.size_drew]); omega))) : Box _ (v1_5) #[.int .i64 (expI y)]) (by omega) (by omega) (x := x)) (by rw [E1.out, HP.out])).mono ?_)
    rintro e w2 ⟨rfl, hb⟩
    have X2' : Box w2 (w.heap.size + 1) #[.int .i64 (y), .int .u64 (limb 0 B), .int .u64 (limb 1 B), .int .u64 (limb 2 B), .int .u64 (limb 3 B)] := Box.call hb (by repeat (first | with_reducible assumption | with_reducible apply Box.set10 | with_reducible apply Box.set20 | with_reducible apply Box.set21 | with_reducible apply Box.set40 | with_reducible apply Box.set41 | with_reducible apply Box.set42 | with_reducible apply Box.set43 | with_reducible apply Box.set50 | with_reducible apply Box.set51 | with_reducible apply Box.set52 | with_reducible apply Box.set53 | with_reducible apply Box.set54 | with_reducible apply Box.set80 | with_reducible apply Box.set81 | with_reducible apply Box.set82 | with_reducible apply Box.set83 | with_reducible apply Box.set84 | with_reducible apply Box.set85 | with_reducible apply Box.set86 | with_reducible apply Box.set87 | with_reducible apply Box.drew | (with_reducible apply Box.newAt; (try simp only [World.size_alloc, World.size_setCell, World.size_drew]); done) | with_reducible apply Box.alloc | (with_reducible apply Box.other; case hne => ((try simp only [World.size_alloc, World.size_setCell, World.size_drew]); omega))))
    have Bv1_5' : Box w2 (v1_5) #[.int .i64 (expI y)] := Box.call hb (by repeat (first | with_reducible assumption | with_reducible apply Box.set10 | with_reducible apply Box.set20 | with_reducible apply Box.set21 | with_reducible apply Box.set40 | with_reducible apply Box.set41 | with_reducible apply Box.set42 | with_reducible apply Box.set43 | with_reducible apply Box.set50 | with_reducible apply Box.set51 | with_reducible apply Box.set52 | with_reducible apply Box.set53 | with_reducible apply Box.set54 | with_reducible apply Box.set80 | with_reducible apply Box.set81 | with_reducible apply Box.set82 | with_reducible apply Box.set83 | with_reducible apply Box.set84 | with_reducible apply Box.set85 | with_reducible apply Box.set86 | with_reducible apply Box.set87 | with_reducible apply Box.drew | (with_reducible apply Box.newAt; (try simp only [World.size_alloc, World.size_setCell, World.size_drew]); done) | with_reducible apply Box.alloc | (with_reducible apply Box.other; case hne => ((try simp only [World.size_alloc, World.size_setCell, World.size_drew]); omega))))
    have hk' : Kept w.heap.size w w2 := Kept.step (by repeat (first | with_reducible exact hk | with_reducible exact Kept.refl _ | with_reducible refine Kept.alloc ?_ _ | with_reducible refine Kept.drew ?_ | with_reducible refine Kept.setCell ?_ (by simp only [World.size_alloc, World.size_setCell, World.size_drew]; omega) _)) hb
    clear hk hb
    clear X1 X1l1 X1l2 X1l3 X1f X10 X11 X12 X13 X14
    clear X2 X2l1 X2l2 X2l3 X2f X20 X21 X22 X23 X24
    clear Bv1_5 Bv1_5l1 Bv1_5l2 Bv1_5l3 Bv1_5f Bv1_50
    have X2 := X2'
    clear X2'
    have Bv1_5 := Bv1_5'
    clear Bv1_5'
    have hk := hk'
    clear hk'
    have hz_w2 := hk.size
    have X2l := X2.lt
    have X2f := X2.free
    have X2l1 : w.heap.size + 1 < w2.heap.size + 1 := by omega
    have X2l2 : w.heap.size + 1 < w2.heap.size + 1 + 1 := by omega
    have X2l3 : w.heap.size + 1 < w2.heap.size + 1 + 1 + 1 := by omega
    have X20 := X2.cell 0 _ rfl
    have X21 := X2.cell 1 _ rfl
    have X22 := X2.cell 2 _ rfl
    have X23 := X2.cell 3 _ rfl
    have X24 := X2.cell 4 _ rfl
    have Bv1_5l := Bv1_5.lt
    have Bv1_5f := Bv1_5.free
    have Bv1_5l1 : v1_5 < w2.heap.size + 1 := by omega
    have Bv1_5l2 : v1_5 < w2.heap.size + 1 + 1 := by omega
    have Bv1_5l3 : v1_5 < w2.heap.size + 1 + 1 + 1 := by omega
    have Bv1_50 := Bv1_5.cell 0 _ rfl
    go_wp2_with fail
    (with_reducible refine (calls_to (V := .tuple #[wideV Q, .bool true]) (part_any hB (by repeat (first | with_reducible assumption | with_reducible apply Box.set10 | with_reducible apply Box.set20 | with_reducible apply Box.set21 | with_reducible apply Box.set40 | with_reducible apply Box.set41 | with_reducible apply Box.set42 | with_reducible apply Box.set43 | with_reducible apply Box.set50 | with_reducible apply Box.set51 | with_reducible apply Box.set52 | with_reducible apply Box.set53 | with_reducible apply Box.set54 | with_reducible apply Box.set80 | with_reducible apply Box.set81 | with_reducible apply Box.set82 | with_reducible apply Box.set83 | with_reducible apply Box.set84 | with_reducible apply Box.set85 | with_reducible apply Box.set86 | with_reducible apply Box.set87 | with_reducible apply Box.drew | (with_reducible apply Box.newAt; (try simp only [World.size_alloc, World.size_setCell, World.size_drew]); done) | with_reducible apply Box.alloc | (with_reducible apply Box.other; case hne => ((try simp only [World.size_alloc, World.size_setCell, World.size_drew]); omega))) : Box _ (v1_5) #[.int .i64 (expI y)]) (by omega) (by omega) (x := y)) (by rw [E2.out, HQ.out])).mono ?_)
    rintro e w3 ⟨rfl, hb⟩
    have Bv1_5' : Box w3 (v1_5) #[.int .i64 (expI y)] := Box.call hb (by repeat (first | with_reducible assumption | with_reducible apply Box.set10 | with_reducible apply Box.set20 | with_reducible apply Box.set21 | with_reducible apply Box.set40 | with_reducible apply Box.set41 | with_reducible apply Box.set42 | with_reducible apply Box.set43 | with_reducible apply Box.set50 | with_reducible apply Box.set51 | with_reducible apply Box.set52 | with_reducible apply Box.set53 | with_reducible apply Box.set54 | with_reducible apply Box.set80 | with_reducible apply Box.set81 | with_reducible apply Box.set82 | with_reducible apply Box.set83 | with_reducible apply Box.set84 | with_reducible apply Box.set85 | with_reducible apply Box.set86 | with_reducible apply Box.set87 | with_reducible apply Box.drew | (with_reducible apply Box.newAt; (try simp only [World.size_alloc, World.size_setCell, World.size_drew]); done) | with_reducible apply Box.alloc | (with_reducible apply Box.other; case hne => ((try simp only [World.size_alloc, World.size_setCell, World.size_drew]); omega))))
    have X3' : Box w3 (w2.heap.size) #[.int .u64 (limb 0 P), .int .u64 (limb 1 P), .int .u64 (limb 2 P), .int .u64 (limb 3 P)] := Box.call hb (by repeat (first | with_reducible assumption | with_reducible apply Box.set10 | with_reducible apply Box.set20 | with_reducible apply Box.set21 | with_reducible apply Box.set40 | with_reducible apply Box.set41 | with_reducible apply Box.set42 | with_reducible apply Box.set43 | with_reducible apply Box.set50 | with_reducible apply Box.set51 | with_reducible apply Box.set52 | with_reducible apply Box.set53 | with_reducible apply Box.set54 | with_reducible apply Box.set80 | with_reducible apply Box.set81 | with_reducible apply Box.set82 | with_reducible apply Box.set83 | with_reducible apply Box.set84 | with_reducible apply Box.set85 | with_reducible apply Box.set86 | with_reducible apply Box.set87 | with_reducible apply Box.drew | (with_reducible apply Box.newAt; (try simp only [World.size_alloc, World.size_setCell, World.size_drew]); done) | with_reducible apply Box.alloc | (with_reducible apply Box.other; case hne => ((try simp only [World.size_alloc, World.size_setCell, World.size_drew]); omega))))
    have hk' : Kept w.heap.size w w3 := Kept.step (by repeat (first | with_reducible exact hk | with_reducible exact Kept.refl _ | with_reducible refine Kept.alloc ?_ _ | with_reducible refine Kept.drew ?_ | with_reducible refine Kept.setCell ?_ (by simp only [World.size_alloc, World.size_setCell, World.size_drew]; omega) _)) hb
    clear hk hb
    clear X2 X2l1 X2l2 X2l3 X2f X20 X21 X22 X23 X24
    clear Bv1_5 Bv1_5l1 Bv1_5l2 Bv1_5l3 Bv1_5f Bv1_50
    have Bv1_5 := Bv1_5'
    clear Bv1_5'
    have X3 := X3'
    clear X3'
    have hk := hk'
    clear hk'
    have hz_w3 := hk.size
    have Bv1_5l := Bv1_5.lt
    have Bv1_5f := Bv1_5.free
    have Bv1_5l1 : v1_5 < w3.heap.size + 1 := by omega
    have Bv1_5l2 : v1_5 < w3.heap.size + 1 + 1 := by omega
    have Bv1_5l3 : v1_5 < w3.heap.size + 1 + 1 + 1 := by omega
    have Bv1_50 := Bv1_5.cell 0 _ rfl
    have X3l := X3.lt
    have X3f := X3.free
    have X3l1 : w2.heap.size < w3.heap.size + 1 := by omega
    have X3l2 : w2.heap.size < w3.heap.size + 1 + 1 := by omega
    have X3l3 : w2.heap.size < w3.heap.size + 1 + 1 + 1 := by omega
    have X30 := X3.cell 0 _ rfl
    have X31 := X3.cell 1 _ rfl
    have X32 := X3.cell 2 _ rfl
    have X33 := X3.cell 3 _ rfl
    go_wp2_with fail
    (with_reducible refine (calls_to (V := .int .i64 0) (CmpW_at (IsWide.of hP) (IsWide.of hQ) _) (by rw [HC.out])).mono ?_)
    rintro e w4 ⟨rfl, hb⟩
    have hk' : Kept w.heap.size w w4 := Kept.step (by repeat (first | with_reducible exact hk | with_reducible exact Kept.refl _ | with_reducible refine Kept.alloc ?_ _ | with_reducible refine Kept.drew ?_ | with_reducible refine Kept.setCell ?_ (by simp only [World.size_alloc, World.size_setCell, World.size_drew]; omega) _)) hb
    clear hk hb
    clear Bv1_5 Bv1_5l1 Bv1_5l2 Bv1_5l3 Bv1_5f Bv1_50
    clear X3 X3l1 X3l2 X3l3 X3f X30 X31 X32 X33
    have hk := hk'
    clear hk'
    have hz_w4 := hk.size
    go_wp2
    go_ret
    exact ⟨rfl, (by refine Kept.below ?_; repeat (first | with_reducible exact hk | with_reducible exact Kept.refl _ | with_reducible refine Kept.alloc ?_ _ | with_reducible refine Kept.drew ?_ | with_reducible refine Kept.setCell ?_ (by simp only [World.size_alloc, World.size_setCell, World.size_drew]; omega) _))⟩

set_option maxRecDepth 100000 in
set_option maxHeartbeats 8000000 in
theorem Cmp_lt_same {x y : Int} {A B P Q : Nat} (hA : W256 A) (hB : W256 B) (hP : W256 P) (hQ : W256 Q) (hl : expI x < expI y) (e1 : rightN A (expI y - expI x) = P) (e2 : rightN B (expI y - expI y) = Q) (h2 : lostB A (expI y - expI x) = false) (h3 : lostB B (expI y - expI y) = false) (h1 : cmpN P Q = 0) (w : World) :
    Calls Try.prog 51 #[termV x A, termV y B] w fun e w' => e = .returned (.int .i64 (0)) ∧ Below w.heap.size w w' := by
  have hk := Kept.refl w
  have hx := expI_range x
  have hy := expI_range y
  have E1 := Lib.hid e1; have E2 := Lib.hid e2; have HC := Lib.hid h1; have HP := Lib.hid h2; have HQ := Lib.hid h3
  clear e1 e2 h1 h2 h3
  go_enter Try.func51, Try.ntmps51
  go_wp2
  refine wp_region_g 6 (fun W' => Kept w.heap.size w W' ∧ w.heap.size + 1 + 1 ≤ W'.heap.size ∧ Box W' (w.heap.size) #[.int .i64 (x), .int .u64 (limb 0 A), .int .u64 (limb 1 A), .int .u64 (limb 2 A), .int .u64 (limb 3 A)] ∧ Box W' (w.heap.size + 1) #[.int .i64 (y), .int .u64 (limb 0 B), .int .u64 (limb 1 B), .int .u64 (limb 2 B), .int .u64 (limb 3 B)]) (fun W' => Kept w.heap.size w W' ∧ w.heap.size + 1 + 1 ≤ W'.heap.size ∧ Box W' (w.heap.size) #[.int .i64 (x), .int .u64 (limb 0 A), .int .u64 (limb 1 A), .int .u64 (limb 2 A), .int .u64 (limb 3 A)] ∧ Box W' (w.heap.size + 1) #[.int .i64 (y), .int .u64 (limb 0 B), .int .u64 (limb 1 B), .int .u64 (limb 2 B), .int .u64 (limb 3 B)]) 1000 (w.heap.size + 1 + 1) [.known (termV x A), .known (.int .i64 (expI x)), .known (termV y B), .known (.int .i64 (expI y)), .known (.int .i64 (expI y)), .var #[.int .i64 0] 1000 [.int .i64 0]] (by kernel_rfl) (by kernel_rfl) (fun W W' h hb => ⟨h.1.step hb, Nat.le_trans (h.2.1) hb.size, Box.call hb (h.2.2.1), Box.call hb (h.2.2.2)⟩) (fun W W' h hb => ⟨h.1.step hb, Nat.le_trans (h.2.1) hb.size, Box.call hb (h.2.2.1), Box.call hb (h.2.2.2)⟩) (no_out (of_decide_eq_true (by kernel_rfl))) (.inl (by kernel_rfl)) (.inl (by kernel_rfl)) (fun _ h => h.2.1) (fun _ h => h.2.1) (⟨(by repeat (first | with_reducible exact hk | with_reducible exact Kept.refl _ | with_reducible refine Kept.alloc ?_ _ | with_reducible refine Kept.drew ?_ | with_reducible refine Kept.setCell ?_ (by simp only [World.size_alloc, World.size_setCell, World.size_drew]; omega) _)), (by (try simp only [World.size_alloc, World.size_setCell, World.size_drew]); omega), (by repeat (first | with_reducible assumption | with_reducible apply Box.set10 | with_reducible apply Box.set20 | with_reducible apply Box.set21 | with_reducible apply Box.set40 | with_reducible apply Box.set41 | with_reducible apply Box.set42 | with_reducible apply Box.set43 | with_reducible apply Box.set50 | with_reducible apply Box.set51 | with_reducible apply Box.set52 | with_reducible apply Box.set53 | with_reducible apply Box.set54 | with_reducible apply Box.set80 | with_reducible apply Box.set81 | with_reducible apply Box.set82 | with_reducible apply Box.set83 | with_reducible apply Box.set84 | with_reducible apply Box.set85 | with_reducible apply Box.set86 | with_reducible apply Box.set87 | with_reducible apply Box.drew | (with_reducible apply Box.newAt; (try simp only [World.size_alloc, World.size_setCell, World.size_drew]); done) | with_reducible apply Box.alloc | (with_reducible apply Box.other; case hne => ((try simp only [World.size_alloc, World.size_setCell, World.size_drew]); omega)))), (by repeat (first | with_reducible assumption | with_reducible apply Box.set10 | with_reducible apply Box.set20 | with_reducible apply Box.set21 | with_reducible apply Box.set40 | with_reducible apply Box.set41 | with_reducible apply Box.set42 | with_reducible apply Box.set43 | with_reducible apply Box.set50 | with_reducible apply Box.set51 | with_reducible apply Box.set52 | with_reducible apply Box.set53 | with_reducible apply Box.set54 | with_reducible apply Box.set80 | with_reducible apply Box.set81 | with_reducible apply Box.set82 | with_reducible apply Box.set83 | with_reducible apply Box.set84 | with_reducible apply Box.set85 | with_reducible apply Box.set86 | with_reducible apply Box.set87 | with_reducible apply Box.drew | (with_reducible apply Box.newAt; (try simp only [World.size_alloc, World.size_setCell, World.size_drew]); done) | with_reducible apply Box.alloc | (with_reducible apply Box.other; case hne => ((try simp only [World.size_alloc, World.size_setCell, World.size_drew]); omega))))⟩) ?_
  clear hk
  intro ρ
  simp only [List.take_succ_cons, List.take_zero, List.drop_succ_cons, List.drop_zero]
  refine ⟨?_, ?_⟩
  · as_aux_lemma =>
    intro y_ hS_ hO_ hD
    have Q := ((hS_ (by rfl)).2.2.1).cell
    have q0 := Q 0 _ rfl
    have q1 := Q 1 _ rfl
    have q2 := Q 2 _ rfl
    have q3 := Q 3 _ rfl
    have q4 := Q 4 _ rfl
    clear Q hS_ hO_ hD
    refine s_gen (V := termV x A) [.pointer (some ⟨w.heap.size, 0, none⟩)] (by kernel_rfl) (by kernel_rfl) (by kernel_rfl) ?_
    intro r_ hr_
    have o0_ : r_ (.tmp 2) = .pointer (some ⟨w.heap.size, 0, none⟩) := op_at hr_ 0 (by kernel_rfl) (by kernel_rfl)
    clear hr_
    go_simp; first | done | with_reducible rfl
  simp only [Act.put, planVG, List.setIfInBounds_toArray, List.set_cons_zero, List.set_cons_succ, List.getElem?_cons_zero, List.getElem?_cons_succ]
  refine ⟨?_, ?_⟩
  · as_aux_lemma =>
    intro y_ hS_ hO_ hD
    try clear hS
    clear hS_ hO_ hD
    refine s_gcall (V := .int .i64 (expI x)) [.func (.func 71) #[] #[], termV x A] ?_ ?_ (by kernel_rfl) (by kernel_rfl) (by kernel_rfl) ?_ ?_
    rotate_left 2
    · intro r_ hr_
      have o0_ : r_ (.func 71) = .func (.func 71) #[] #[] := op_at hr_ 0 (by kernel_rfl) (by kernel_rfl)
      have o1_ : r_ (.tmp 12) = termV x A := op_at hr_ 1 (by kernel_rfl) (by kernel_rfl)
      clear hr_
      go_simp; first | done | with_reducible rfl | (constructor <;> with_reducible rfl)
    · refine exp_any x A _
  simp only [Act.put, planVG, List.setIfInBounds_toArray, List.set_cons_zero, List.set_cons_succ, List.getElem?_cons_zero, List.getElem?_cons_succ]
  refine ⟨?_, ?_⟩
  · as_aux_lemma =>
    intro y_ hS_ hO_ hD
    have Q := ((hS_ (by rfl)).2.2.2).cell
    have q0 := Q 0 _ rfl
    have q1 := Q 1 _ rfl
    have q2 := Q 2 _ rfl
    have q3 := Q 3 _ rfl
    have q4 := Q 4 _ rfl
    clear Q hS_ hO_ hD
    refine s_gen (V := termV y B) [.pointer (some ⟨w.heap.size + 1, 0, none⟩)] (by kernel_rfl) (by kernel_rfl) (by kernel_rfl) ?_
    intro r_ hr_
    have o0_ : r_ (.tmp 3) = .pointer (some ⟨w.heap.size + 1, 0, none⟩) := op_at hr_ 0 (by kernel_rfl) (by kernel_rfl)
    clear hr_
    go_simp; first | done | with_reducible rfl
  simp only [Act.put, planVG, List.setIfInBounds_toArray, List.set_cons_zero, List.set_cons_succ, List.getElem?_cons_zero, List.getElem?_cons_succ]
  refine ⟨?_, ?_⟩
  · as_aux_lemma =>
    intro y_ hS_ hO_ hD
    try clear hS
    clear hS_ hO_ hD
    refine s_gcall (V := .int .i64 (expI y)) [.func (.func 71) #[] #[], termV y B] ?_ ?_ (by kernel_rfl) (by kernel_rfl) (by kernel_rfl) ?_ ?_
    rotate_left 2
    · intro r_ hr_
      have o0_ : r_ (.func 71) = .func (.func 71) #[] #[] := op_at hr_ 0 (by kernel_rfl) (by kernel_rfl)
      have o1_ : r_ (.tmp 14) = termV y B := op_at hr_ 1 (by kernel_rfl) (by kernel_rfl)
      clear hr_
      go_simp; first | done | with_reducible rfl | (constructor <;> with_reducible rfl)
    · refine exp_any y B _
  simp only [Act.put, planVG, List.setIfInBounds_toArray, List.set_cons_zero, List.set_cons_succ, List.getElem?_cons_zero, List.getElem?_cons_succ]
  refine ⟨?_, ?_⟩
  · as_aux_lemma =>
    intro y_ hS_ hO_ hD
    clear hS_ hO_ hD
    refine s_gen (V := .int .i64 (expI y)) [.int .i64 (expI x), .int .i64 (expI y)] (by kernel_rfl) (by kernel_rfl) (by kernel_rfl) ?_
    intro r_ hr_
    have o0_ : r_ (.tmp 13) = .int .i64 (expI x) := op_at hr_ 0 (by kernel_rfl) (by kernel_rfl)
    have o1_ : r_ (.tmp 15) = .int .i64 (expI y) := op_at hr_ 1 (by kernel_rfl) (by kernel_rfl)
    clear hr_
    go_simp; first | done | with_reducible rfl | omega
  simp only [Act.put, planVG, List.setIfInBounds_toArray, List.set_cons_zero, List.set_cons_succ, List.getElem?_cons_zero, List.getElem?_cons_succ]
  refine ⟨?_, ?_⟩
  · as_aux_lemma =>
    intro y_ hS_ hO_ hD
    clear hS_ hO_ hD
    refine s_alloc (by rfl) (by rfl) ?_
    simp only [allocTy]
    go_simp; first | done | with_reducible rfl | rfl
  simp only [Act.put, planVG, List.setIfInBounds_toArray, List.set_cons_zero, List.set_cons_succ, List.getElem?_cons_zero, List.getElem?_cons_succ]
  as_aux_lemma =>
    intro w1 hS hF hD_
    change wpList _ _ _ _ _ _
    replace hS := sg_no (by decide) hS
    obtain ⟨hk, hZ1, X1, X2⟩ := hS
    obtain ⟨v1_5, e_v1_5, hv1_5, Bv1_5⟩ : ∃ b, ρ 5 = .pointer (some ⟨b, 0, none⟩) ∧ w.heap.size + 1 + 1 ≤ b ∧ Box w1 b #[.int .i64 0] := by
      obtain ⟨b, h1, h2, h3⟩ := hF 5 (by decide)
      exact ⟨b, h1, h2, h3.lt, h3.cell, h3.free⟩
    clear hF hD_
    simp only [e_v1_5]
    clear e_v1_5
    clear ρ
    have hz_w1 := hk.size
    have X1l := X1.lt
    have X1f := X1.free
    have X1l1 : w.heap.size < w1.heap.size + 1 := by omega
    have X1l2 : w.heap.size < w1.heap.size + 1 + 1 := by omega
    have X1l3 : w.heap.size < w1.heap.size + 1 + 1 + 1 := by omega
    have X10 := X1.cell 0 _ rfl
    have X11 := X1.cell 1 _ rfl
    have X12 := X1.cell 2 _ rfl
    have X13 := X1.cell 3 _ rfl
    have X14 := X1.cell 4 _ rfl
    have X2l := X2.lt
    have X2f := X2.free
    have X2l1 : w.heap.size + 1 < w1.heap.size + 1 := by omega
    have X2l2 : w.heap.size + 1 < w1.heap.size + 1 + 1 := by omega
    have X2l3 : w.heap.size + 1 < w1.heap.size + 1 + 1 + 1 := by omega
    have X20 := X2.cell 0 _ rfl
    have X21 := X2.cell 1 _ rfl
    have X22 := X2.cell 2 _ rfl
    have X23 := X2.cell 3 _ rfl
    have X24 := X2.cell 4 _ rfl
    have Bv1_5l := Bv1_5.lt
    have Bv1_5f := Bv1_5.free
    have Bv1_5l1 : v1_5 < w1.heap.size + 1 := by omega
    have Bv1_5l2 : v1_5 < w1.heap.size + 1 + 1 := by omega
    have Bv1_5l3 : v1_5 < w1.heap.size + 1 + 1 + 1 := by omega
    have Bv1_50 := Bv1_5.cell 0 _ rfl
    go_wp2_with fail
    (with_reducible refine (calls_to (V := .tuple #[wideV P, .bool false]) (part_any hA (by repeat (first | with_reducible assumption | with_reducible apply Box.set10 | with_reducible apply Box.set20 | with_reducible apply Box.set21 | with_reducible apply Box.set40 | with_reducible apply Box.set41 | with_reducible apply Box.set42 | with_reducible apply Box.set43 | with_reducible apply Box.set50 | with_reducible apply Box.set51 | with_reducible apply Box.set52 | with_reducible apply Box.set53 | with_reducible apply Box.set54 | with_reducible apply Box.set80 | with_reducible apply Box.set81 | with_reducible apply Box.set82 | with_reducible apply Box.set83 | with_reducible apply Box.set84 | with_reducible apply Box.set85 | with_reducible apply Box.set86 | with_reducible apply Box.set87 | with_reducible apply Box.drew | (with_reducible apply Box.newAt; (try simp only [World.size_alloc, World.size_setCell, World.size_drew]); done) | with_reducible apply Box.alloc | (with_reducible apply Box.other; case hne => ((try simp only [World.size_alloc, World.size_setCell, World.size_drew]); omega))) : Box _ (v1_5) #[.int .i64 (expI y)]) (by omega) (by omega) (x := x)) (by rw [E1.out, HP.out])).mono ?_)
    rintro e w2 ⟨rfl, hb⟩
    have X2' : Box w2 (w.heap.size + 1) #[.int .i64 (y), .int .u64 (limb 0 B), .int .u64 (limb 1 B), .int .u64 (limb 2 B), .int .u64 (limb 3 B)] := Box.call hb (by repeat (first | with_reducible assumption | with_reducible apply Box.set10 | with_reducible apply Box.set20 | with_reducible apply Box.set21 | with_reducible apply Box.set40 | with_reducible apply Box.set41 | with_reducible apply Box.set42 | with_reducible apply Box.set43 | with_reducible apply Box.set50 | with_reducible apply Box.set51 | with_reducible apply Box.set52 | with_reducible apply Box.set53 | with_reducible apply Box.set54 | with_reducible apply Box.set80 | with_reducible apply Box.set81 | with_reducible apply Box.set82 | with_reducible apply Box.set83 | with_reducible apply Box.set84 | with_reducible apply Box.set85 | with_reducible apply Box.set86 | with_reducible apply Box.set87 | with_reducible apply Box.drew | (with_reducible apply Box.newAt; (try simp only [World.size_alloc, World.size_setCell, World.size_drew]); done) | with_reducible apply Box.alloc | (with_reducible apply Box.other; case hne => ((try simp only [World.size_alloc, World.size_setCell, World.size_drew]); omega))))
    have Bv1_5' : Box w2 (v1_5) #[.int .i64 (expI y)] := Box.call hb (by repeat (first | with_reducible assumption | with_reducible apply Box.set10 | with_reducible apply Box.set20 | with_reducible apply Box.set21 | with_reducible apply Box.set40 | with_reducible apply Box.set41 | with_reducible apply Box.set42 | with_reducible apply Box.set43 | with_reducible apply Box.set50 | with_reducible apply Box.set51 | with_reducible apply Box.set52 | with_reducible apply Box.set53 | with_reducible apply Box.set54 | with_reducible apply Box.set80 | with_reducible apply Box.set81 | with_reducible apply Box.set82 | with_reducible apply Box.set83 | with_reducible apply Box.set84 | with_reducible apply Box.set85 | with_reducible apply Box.set86 | with_reducible apply Box.set87 | with_reducible apply Box.drew | (with_reducible apply Box.newAt; (try simp only [World.size_alloc, World.size_setCell, World.size_drew]); done) | with_reducible apply Box.alloc | (with_reducible apply Box.other; case hne => ((try simp only [World.size_alloc, World.size_setCell, World.size_drew]); omega))))
    have hk' : Kept w.heap.size w w2 := Kept.step (by repeat (first | with_reducible exact hk | with_reducible exact Kept.refl _ | with_reducible refine Kept.alloc ?_ _ | with_reducible refine Kept.drew ?_ | with_reducible refine Kept.setCell ?_ (by simp only [World.size_alloc, World.size_setCell, World.size_drew]; omega) _)) hb
    clear hk hb
    clear X1 X1l1 X1l2 X1l3 X1f X10 X11 X12 X13 X14
    clear X2 X2l1 X2l2 X2l3 X2f X20 X21 X22 X23 X24
    clear Bv1_5 Bv1_5l1 Bv1_5l2 Bv1_5l3 Bv1_5f Bv1_50
    have X2 := X2'
    clear X2'
    have Bv1_5 := Bv1_5'
    clear Bv1_5'
    have hk := hk'
    clear hk'
    have hz_w2 := hk.size
    have X2l := X2.lt
    have X2f := X2.free
    have X2l1 : w.heap.size + 1 < w2.heap.size + 1 := by omega
    have X2l2 : w.heap.size + 1 < w2.heap.size + 1 + 1 := by omega
    have X2l3 : w.heap.size + 1 < w2.heap.size + 1 + 1 + 1 := by omega
    have X20 := X2.cell 0 _ rfl
    have X21 := X2.cell 1 _ rfl
    have X22 := X2.cell 2 _ rfl
    have X23 := X2.cell 3 _ rfl
    have X24 := X2.cell 4 _ rfl
    have Bv1_5l := Bv1_5.lt
    have Bv1_5f := Bv1_5.free
    have Bv1_5l1 : v1_5 < w2.heap.size + 1 := by omega
    have Bv1_5l2 : v1_5 < w2.heap.size + 1 + 1 := by omega
    have Bv1_5l3 : v1_5 < w2.heap.size + 1 + 1 + 1 := by omega
    have Bv1_50 := Bv1_5.cell 0 _ rfl
    go_wp2_with fail
    (with_reducible refine (calls_to (V := .tuple #[wideV Q, .bool false]) (part_any hB (by repeat (first | with_reducible assumption | with_reducible apply Box.set10 | with_reducible apply Box.set20 | with_reducible apply Box.set21 | with_reducible apply Box.set40 | with_reducible apply Box.set41 | with_reducible apply Box.set42 | with_reducible apply Box.set43 | with_reducible apply Box.set50 | with_reducible apply Box.set51 | with_reducible apply Box.set52 | with_reducible apply Box.set53 | with_reducible apply Box.set54 | with_reducible apply Box.set80 | with_reducible apply Box.set81 | with_reducible apply Box.set82 | with_reducible apply Box.set83 | with_reducible apply Box.set84 | with_reducible apply Box.set85 | with_reducible apply Box.set86 | with_reducible apply Box.set87 | with_reducible apply Box.drew | (with_reducible apply Box.newAt; (try simp only [World.size_alloc, World.size_setCell, World.size_drew]); done) | with_reducible apply Box.alloc | (with_reducible apply Box.other; case hne => ((try simp only [World.size_alloc, World.size_setCell, World.size_drew]); omega))) : Box _ (v1_5) #[.int .i64 (expI y)]) (by omega) (by omega) (x := y)) (by rw [E2.out, HQ.out])).mono ?_)
    rintro e w3 ⟨rfl, hb⟩
    have Bv1_5' : Box w3 (v1_5) #[.int .i64 (expI y)] := Box.call hb (by repeat (first | with_reducible assumption | with_reducible apply Box.set10 | with_reducible apply Box.set20 | with_reducible apply Box.set21 | with_reducible apply Box.set40 | with_reducible apply Box.set41 | with_reducible apply Box.set42 | with_reducible apply Box.set43 | with_reducible apply Box.set50 | with_reducible apply Box.set51 | with_reducible apply Box.set52 | with_reducible apply Box.set53 | with_reducible apply Box.set54 | with_reducible apply Box.set80 | with_reducible apply Box.set81 | with_reducible apply Box.set82 | with_reducible apply Box.set83 | with_reducible apply Box.set84 | with_reducible apply Box.set85 | with_reducible apply Box.set86 | with_reducible apply Box.set87 | with_reducible apply Box.drew | (with_reducible apply Box.newAt; (try simp only [World.size_alloc, World.size_setCell, World.size_drew]); done) | with_reducible apply Box.alloc | (with_reducible apply Box.other; case hne => ((try simp only [World.size_alloc, World.size_setCell, World.size_drew]); omega))))
    have X3' : Box w3 (w2.heap.size) #[.int .u64 (limb 0 P), .int .u64 (limb 1 P), .int .u64 (limb 2 P), .int .u64 (limb 3 P)] := Box.call hb (by repeat (first | with_reducible assumption | with_reducible apply Box.set10 | with_reducible apply Box.set20 | with_reducible apply Box.set21 | with_reducible apply Box.set40 | with_reducible apply Box.set41 | with_reducible apply Box.set42 | with_reducible apply Box.set43 | with_reducible apply Box.set50 | with_reducible apply Box.set51 | with_reducible apply Box.set52 | with_reducible apply Box.set53 | with_reducible apply Box.set54 | with_reducible apply Box.set80 | with_reducible apply Box.set81 | with_reducible apply Box.set82 | with_reducible apply Box.set83 | with_reducible apply Box.set84 | with_reducible apply Box.set85 | with_reducible apply Box.set86 | with_reducible apply Box.set87 | with_reducible apply Box.drew | (with_reducible apply Box.newAt; (try simp only [World.size_alloc, World.size_setCell, World.size_drew]); done) | with_reducible apply Box.alloc | (with_reducible apply Box.other; case hne => ((try simp only [World.size_alloc, World.size_setCell, World.size_drew]); omega))))
    have hk' : Kept w.heap.size w w3 := Kept.step (by repeat (first | with_reducible exact hk | with_reducible exact Kept.refl _ | with_reducible refine Kept.alloc ?_ _ | with_reducible refine Kept.drew ?_ | with_reducible refine Kept.setCell ?_ (by simp only [World.size_alloc, World.size_setCell, World.size_drew]; omega) _)) hb
    clear hk hb
    clear X2 X2l1 X2l2 X2l3 X2f X20 X21 X22 X23 X24
    clear Bv1_5 Bv1_5l1 Bv1_5l2 Bv1_5l3 Bv1_5f Bv1_50
    have Bv1_5 := Bv1_5'
    clear Bv1_5'
    have X3 := X3'
    clear X3'
    have hk := hk'
    clear hk'
    have hz_w3 := hk.size
    have Bv1_5l := Bv1_5.lt
    have Bv1_5f := Bv1_5.free
    have Bv1_5l1 : v1_5 < w3.heap.size + 1 := by omega
    have Bv1_5l2 : v1_5 < w3.heap.size + 1 + 1 := by omega
    have Bv1_5l3 : v1_5 < w3.heap.size + 1 + 1 + 1 := by omega
    have Bv1_50 := Bv1_5.cell 0 _ rfl
    have X3l := X3.lt
    have X3f := X3.free
    have X3l1 : w2.heap.size < w3.heap.size + 1 := by omega
    have X3l2 : w2.heap.size < w3.heap.size + 1 + 1 := by omega
    have X3l3 : w2.heap.size < w3.heap.size + 1 + 1 + 1 := by omega
    have X30 := X3.cell 0 _ rfl
    have X31 := X3.cell 1 _ rfl
    have X32 := X3.cell 2 _ rfl
    have X33 := X3.cell 3 _ rfl
    go_wp2_with fail
    (with_reducible refine (calls_to (V := .int .i64 0) (CmpW_at (IsWide.of hP) (IsWide.of hQ) _) (by rw [HC.out])).mono ?_)
    rintro e w4 ⟨rfl, hb⟩
    have hk' : Kept w.heap.size w w4 := Kept.step (by repeat (first | with_reducible exact hk | with_reducible exact Kept.refl _ | with_reducible refine Kept.alloc ?_ _ | with_reducible refine Kept.drew ?_ | with_reducible refine Kept.setCell ?_ (by simp only [World.size_alloc, World.size_setCell, World.size_drew]; omega) _)) hb
    clear hk hb
    clear Bv1_5 Bv1_5l1 Bv1_5l2 Bv1_5l3 Bv1_5f Bv1_50
    clear X3 X3l1 X3l2 X3l3 X3f X30 X31 X32 X33
    have hk := hk'
    clear hk'
    have hz_w4 := hk.size
    go_wp2
    go_ret
    exact ⟨rfl, (by refine Kept.below ?_; repeat (first | with_reducible exact hk | with_reducible exact Kept.refl _ | with_reducible refine Kept.alloc ?_ _ | with_reducible refine Kept.drew ?_ | with_reducible refine Kept.setCell ?_ (by simp only [World.size_alloc, World.size_setCell, World.size_drew]; omega) _))⟩

set_option maxRecDepth 100000 in
set_option maxHeartbeats 8000000 in
theorem Cmp_lt_diff {x y : Int} {A B P Q : Nat} {c : Int} {p q : Bool} (hA : W256 A) (hB : W256 B) (hP : W256 P) (hQ : W256 Q) (hl : expI x < expI y) (e1 : rightN A (expI y - expI x) = P) (e2 : rightN B (expI y - expI y) = Q) (h2 : lostB A (expI y - expI x) = p) (h3 : lostB B (expI y - expI y) = q) (h1 : cmpN P Q = c) (h4 : ¬ c = 0) (w : World) :
    Calls Try.prog 51 #[termV x A, termV y B] w fun e w' => e = .returned (.int .i64 (c)) ∧ Below w.heap.size w w' := by
  have hk := Kept.refl w
  have hx := expI_range x
  have hy := expI_range y
  have E1 := Lib.hid e1; have E2 := Lib.hid e2; have HC := Lib.hid h1; have HP := Lib.hid h2; have HQ := Lib.hid h3
  have hc0 : ¬ c = 0 := h4
  clear e1 e2 h1 h2 h3 h4
  go_enter Try.func51, Try.ntmps51
  go_wp2
  refine wp_region_g 6 (fun W' => Kept w.heap.size w W' ∧ w.heap.size + 1 + 1 ≤ W'.heap.size ∧ Box W' (w.heap.size) #[.int .i64 (x), .int .u64 (limb 0 A), .int .u64 (limb 1 A), .int .u64 (limb 2 A), .int .u64 (limb 3 A)] ∧ Box W' (w.heap.size + 1) #[.int .i64 (y), .int .u64 (limb 0 B), .int .u64 (limb 1 B), .int .u64 (limb 2 B), .int .u64 (limb 3 B)]) (fun W' => Kept w.heap.size w W' ∧ w.heap.size + 1 + 1 ≤ W'.heap.size ∧ Box W' (w.heap.size) #[.int .i64 (x), .int .u64 (limb 0 A), .int .u64 (limb 1 A), .int .u64 (limb 2 A), .int .u64 (limb 3 A)] ∧ Box W' (w.heap.size + 1) #[.int .i64 (y), .int .u64 (limb 0 B), .int .u64 (limb 1 B), .int .u64 (limb 2 B), .int .u64 (limb 3 B)]) 1000 (w.heap.size + 1 + 1) [.known (termV x A), .known (.int .i64 (expI x)), .known (termV y B), .known (.int .i64 (expI y)), .known (.int .i64 (expI y)), .var #[.int .i64 0] 1000 [.int .i64 0]] (by kernel_rfl) (by kernel_rfl) (fun W W' h hb => ⟨h.1.step hb, Nat.le_trans (h.2.1) hb.size, Box.call hb (h.2.2.1), Box.call hb (h.2.2.2)⟩) (fun W W' h hb => ⟨h.1.step hb, Nat.le_trans (h.2.1) hb.size, Box.call hb (h.2.2.1), Box.call hb (h.2.2.2)⟩) (no_out (of_decide_eq_true (by kernel_rfl))) (.inl (by kernel_rfl)) (.inl (by kernel_rfl)) (fun _ h => h.2.1) (fun _ h => h.2.1) (⟨(by repeat (first | with_reducible exact hk | with_reducible exact Kept.refl _ | with_reducible refine Kept.alloc ?_ _ | with_reducible refine Kept.drew ?_ | with_reducible refine Kept.setCell ?_ (by simp only [World.size_alloc, World.size_setCell, World.size_drew]; omega) _)), (by (try simp only [World.size_alloc, World.size_setCell, World.size_drew]); omega), (by repeat (first | with_reducible assumption | with_reducible apply Box.set10 | with_reducible apply Box.set20 | with_reducible apply Box.set21 | with_reducible apply Box.set40 | with_reducible apply Box.set41 | with_reducible apply Box.set42 | with_reducible apply Box.set43 | with_reducible apply Box.set50 | with_reducible apply Box.set51 | with_reducible apply Box.set52 | with_reducible apply Box.set53 | with_reducible apply Box.set54 | with_reducible apply Box.set80 | with_reducible apply Box.set81 | with_reducible apply Box.set82 | with_reducible apply Box.set83 | with_reducible apply Box.set84 | with_reducible apply Box.set85 | with_reducible apply Box.set86 | with_reducible apply Box.set87 | with_reducible apply Box.drew | (with_reducible apply Box.newAt; (try simp only [World.size_alloc, World.size_setCell, World.size_drew]); done) | with_reducible apply Box.alloc | (with_reducible apply Box.other; case hne => ((try simp only [World.size_alloc, World.size_setCell, World.size_drew]); omega)))), (by repeat (first | with_reducible assumption | with_reducible apply Box.set10 | with_reducible apply Box.set20 | with_reducible apply Box.set21 | with_reducible apply Box.set40 | with_reducible apply Box.set41 | with_reducible apply Box.set42 | with_reducible apply Box.set43 | with_reducible apply Box.set50 | with_reducible apply Box.set51 | with_reducible apply Box.set52 | with_reducible apply Box.set53 | with_reducible apply Box.set54 | with_reducible apply Box.set80 | with_reducible apply Box.set81 | with_reducible apply Box.set82 | with_reducible apply Box.set83 | with_reducible apply Box.set84 | with_reducible apply Box.set85 | with_reducible apply Box.set86 | with_reducible apply Box.set87 | with_reducible apply Box.drew | (with_reducible apply Box.newAt; (try simp only [World.size_alloc, World.size_setCell, World.size_drew]); done) | with_reducible apply Box.alloc | (with_reducible apply Box.other; case hne => ((try simp only [World.size_alloc, World.size_setCell, World.size_drew]); omega))))⟩) ?_
  clear hk
  intro ρ
  simp only [List.take_succ_cons, List.take_zero, List.drop_succ_cons, List.drop_zero]
  refine ⟨?_, ?_⟩
  · as_aux_lemma =>
    intro y_ hS_ hO_ hD
    have Q := ((hS_ (by rfl)).2.2.1).cell
    have q0 := Q 0 _ rfl
    have q1 := Q 1 _ rfl
    have q2 := Q 2 _ rfl
    have q3 := Q 3 _ rfl
    have q4 := Q 4 _ rfl
    clear Q hS_ hO_ hD
    refine s_gen (V := termV x A) [.pointer (some ⟨w.heap.size, 0, none⟩)] (by kernel_rfl) (by kernel_rfl) (by kernel_rfl) ?_
    intro r_ hr_
    have o0_ : r_ (.tmp 2) = .pointer (some ⟨w.heap.size, 0, none⟩) := op_at hr_ 0 (by kernel_rfl) (by kernel_rfl)
    clear hr_
    go_simp; first | done | with_reducible rfl
  simp only [Act.put, planVG, List.setIfInBounds_toArray, List.set_cons_zero, List.set_cons_succ, List.getElem?_cons_zero, List.getElem?_cons_succ]
  refine ⟨?_, ?_⟩
  · as_aux_lemma =>
    intro y_ hS_ hO_ hD
    try clear hS
    clear hS_ hO_ hD
    refine s_gcall (V := .int .i64 (expI x)) [.func (.func 71) #[] #[], termV x A] ?_ ?_ (by kernel_rfl) (by kernel_rfl) (by kernel_rfl) ?_ ?_
    rotate_left 2
    · intro r_ hr_
      have o0_ : r_ (.func 71) = .func (.func 71) #[] #[] := op_at hr_ 0 (by kernel_rfl) (by kernel_rfl)
      have o1_ : r_ (.tmp 12) = termV x A := op_at hr_ 1 (by kernel_rfl) (by kernel_rfl)
      clear hr_
      go_simp; first | done | with_reducible rfl | (constructor <;> with_reducible rfl)
    · refine exp_any x A _
  simp only [Act.put, planVG, List.setIfInBounds_toArray, List.set_cons_zero, List.set_cons_succ, List.getElem?_cons_zero, List.getElem?_cons_succ]
  refine ⟨?_, ?_⟩
  · as_aux_lemma =>
    intro y_ hS_ hO_ hD
    have Q := ((hS_ (by rfl)).2.2.2).cell
    have q0 := Q 0 _ rfl
    have q1 := Q 1 _ rfl
    have q2 := Q 2 _ rfl
    have q3 := Q 3 _ rfl
    have q4 := Q 4 _ rfl
    clear Q hS_ hO_ hD
    refine s_gen (V := termV y B) [.pointer (some ⟨w.heap.size + 1, 0, none⟩)] (by kernel_rfl) (by kernel_rfl) (by kernel_rfl) ?_
    intro r_ hr_
    have o0_ : r_ (.tmp 3) = .pointer (some ⟨w.heap.size + 1, 0, none⟩) := op_at hr_ 0 (by kernel_rfl) (by kernel_rfl)
    clear hr_
    go_simp; first | done | with_reducible rfl
  simp only [Act.put, planVG, List.setIfInBounds_toArray, List.set_cons_zero, List.set_cons_succ, List.getElem?_cons_zero, List.getElem?_cons_succ]
  refine ⟨?_, ?_⟩
  · as_aux_lemma =>
    intro y_ hS_ hO_ hD
    try clear hS
    clear hS_ hO_ hD
    refine s_gcall (V := .int .i64 (expI y)) [.func (.func 71) #[] #[], termV y B] ?_ ?_ (by kernel_rfl) (by kernel_rfl) (by kernel_rfl) ?_ ?_
    rotate_left 2
    · intro r_ hr_
      have o0_ : r_ (.func 71) = .func (.func 71) #[] #[] := op_at hr_ 0 (by kernel_rfl) (by kernel_rfl)
      have o1_ : r_ (.tmp 14) = termV y B := op_at hr_ 1 (by kernel_rfl) (by kernel_rfl)
      clear hr_
      go_simp; first | done | with_reducible rfl | (constructor <;> with_reducible rfl)
    · refine exp_any y B _
  simp only [Act.put, planVG, List.setIfInBounds_toArray, List.set_cons_zero, List.set_cons_succ, List.getElem?_cons_zero, List.getElem?_cons_succ]
  refine ⟨?_, ?_⟩
  · as_aux_lemma =>
    intro y_ hS_ hO_ hD
    clear hS_ hO_ hD
    refine s_gen (V := .int .i64 (expI y)) [.int .i64 (expI x), .int .i64 (expI y)] (by kernel_rfl) (by kernel_rfl) (by kernel_rfl) ?_
    intro r_ hr_
    have o0_ : r_ (.tmp 13) = .int .i64 (expI x) := op_at hr_ 0 (by kernel_rfl) (by kernel_rfl)
    have o1_ : r_ (.tmp 15) = .int .i64 (expI y) := op_at hr_ 1 (by kernel_rfl) (by kernel_rfl)
    clear hr_
    go_simp; first | done | with_reducible rfl | omega
  simp only [Act.put, planVG, List.setIfInBounds_toArray, List.set_cons_zero, List.set_cons_succ, List.getElem?_cons_zero, List.getElem?_cons_succ]
  refine ⟨?_, ?_⟩
  · as_aux_lemma =>
    intro y_ hS_ hO_ hD
    clear hS_ hO_ hD
    refine s_alloc (by rfl) (by rfl) ?_
    simp only [allocTy]
    go_simp; first | done | with_reducible rfl | rfl
  simp only [Act.put, planVG, List.setIfInBounds_toArray, List.set_cons_zero, List.set_cons_succ, List.getElem?_cons_zero, List.getElem?_cons_succ]
  as_aux_lemma =>
    intro w1 hS hF hD_
    change wpList _ _ _ _ _ _
    replace hS := sg_no (by decide) hS
    obtain ⟨hk, hZ1, X1, X2⟩ := hS
    obtain ⟨v1_5, e_v1_5, hv1_5, Bv1_5⟩ : ∃ b, ρ 5 = .pointer (some ⟨b, 0, none⟩) ∧ w.heap.size + 1 + 1 ≤ b ∧ Box w1 b #[.int .i64 0] := by
      obtain ⟨b, h1, h2, h3⟩ := hF 5 (by decide)
      exact ⟨b, h1, h2, h3.lt, h3.cell, h3.free⟩
    clear hF hD_
    simp only [e_v1_5]
    clear e_v1_5
    clear ρ
    have hz_w1 := hk.size
    have X1l := X1.lt
    have X1f := X1.free
    have X1l1 : w.heap.size < w1.heap.size + 1 := by omega
    have X1l2 : w.heap.size < w1.heap.size + 1 + 1 := by omega
    have X1l3 : w.heap.size < w1.heap.size + 1 + 1 + 1 := by omega
    have X10 := X1.cell 0 _ rfl
    have X11 := X1.cell 1 _ rfl
    have X12 := X1.cell 2 _ rfl
    have X13 := X1.cell 3 _ rfl
    have X14 := X1.cell 4 _ rfl
    have X2l := X2.lt
    have X2f := X2.free
    have X2l1 : w.heap.size + 1 < w1.heap.size + 1 := by omega
    have X2l2 : w.heap.size + 1 < w1.heap.size + 1 + 1 := by omega
    have X2l3 : w.heap.size + 1 < w1.heap.size + 1 + 1 + 1 := by omega
    have X20 := X2.cell 0 _ rfl
    have X21 := X2.cell 1 _ rfl
    have X22 := X2.cell 2 _ rfl
    have X23 := X2.cell 3 _ rfl
    have X24 := X2.cell 4 _ rfl
    have Bv1_5l := Bv1_5.lt
    have Bv1_5f := Bv1_5.free
    have Bv1_5l1 : v1_5 < w1.heap.size + 1 := by omega
    have Bv1_5l2 : v1_5 < w1.heap.size + 1 + 1 := by omega
    have Bv1_5l3 : v1_5 < w1.heap.size + 1 + 1 + 1 := by omega
    have Bv1_50 := Bv1_5.cell 0 _ rfl
    go_wp2_with fail
    (with_reducible refine (calls_to (V := .tuple #[wideV P, .bool (p)]) (part_any hA (by repeat (first | with_reducible assumption | with_reducible apply Box.set10 | with_reducible apply Box.set20 | with_reducible apply Box.set21 | with_reducible apply Box.set40 | with_reducible apply Box.set41 | with_reducible apply Box.set42 | with_reducible apply Box.set43 | with_reducible apply Box.set50 | with_reducible apply Box.set51 | with_reducible apply Box.set52 | with_reducible apply Box.set53 | with_reducible apply Box.set54 | with_reducible apply Box.set80 | with_reducible apply Box.set81 | with_reducible apply Box.set82 | with_reducible apply Box.set83 | with_reducible apply Box.set84 | with_reducible apply Box.set85 | with_reducible apply Box.set86 | with_reducible apply Box.set87 | with_reducible apply Box.drew | (with_reducible apply Box.newAt; (try simp only [World.size_alloc, World.size_setCell, World.size_drew]); done) | with_reducible apply Box.alloc | (with_reducible apply Box.other; case hne => ((try simp only [World.size_alloc, World.size_setCell, World.size_drew]); omega))) : Box _ (v1_5) #[.int .i64 (expI y)]) (by omega) (by omega) (x := x)) (by rw [E1.out, HP.out])).mono ?_)
    rintro e w2 ⟨rfl, hb⟩
    have X2' : Box w2 (w.heap.size + 1) #[.int .i64 (y), .int .u64 (limb 0 B), .int .u64 (limb 1 B), .int .u64 (limb 2 B), .int .u64 (limb 3 B)] := Box.call hb (by repeat (first | with_reducible assumption | with_reducible apply Box.set10 | with_reducible apply Box.set20 | with_reducible apply Box.set21 | with_reducible apply Box.set40 | with_reducible apply Box.set41 | with_reducible apply Box.set42 | with_reducible apply Box.set43 | with_reducible apply Box.set50 | with_reducible apply Box.set51 | with_reducible apply Box.set52 | with_reducible apply Box.set53 | with_reducible apply Box.set54 | with_reducible apply Box.set80 | with_reducible apply Box.set81 | with_reducible apply Box.set82 | with_reducible apply Box.set83 | with_reducible apply Box.set84 | with_reducible apply Box.set85 | with_reducible apply Box.set86 | with_reducible apply Box.set87 | with_reducible apply Box.drew | (with_reducible apply Box.newAt; (try simp only [World.size_alloc, World.size_setCell, World.size_drew]); done) | with_reducible apply Box.alloc | (with_reducible apply Box.other; case hne => ((try simp only [World.size_alloc, World.size_setCell, World.size_drew]); omega))))
    have Bv1_5' : Box w2 (v1_5) #[.int .i64 (expI y)] := Box.call hb (by repeat (first | with_reducible assumption | with_reducible apply Box.set10 | with_reducible apply Box.set20 | with_reducible apply Box.set21 | with_reducible apply Box.set40 | with_reducible apply Box.set41 | with_reducible apply Box.set42 | with_reducible apply Box.set43 | with_reducible apply Box.set50 | with_reducible apply Box.set51 | with_reducible apply Box.set52 | with_reducible apply Box.set53 | with_reducible apply Box.set54 | with_reducible apply Box.set80 | with_reducible apply Box.set81 | with_reducible apply Box.set82 | with_reducible apply Box.set83 | with_reducible apply Box.set84 | with_reducible apply Box.set85 | with_reducible apply Box.set86 | with_reducible apply Box.set87 | with_reducible apply Box.drew | (with_reducible apply Box.newAt; (try simp only [World.size_alloc, World.size_setCell, World.size_drew]); done) | with_reducible apply Box.alloc | (with_reducible apply Box.other; case hne => ((try simp only [World.size_alloc, World.size_setCell, World.size_drew]); omega))))
    have hk' : Kept w.heap.size w w2 := Kept.step (by repeat (first | with_reducible exact hk | with_reducible exact Kept.refl _ | with_reducible refine Kept.alloc ?_ _ | with_reducible refine Kept.drew ?_ | with_reducible refine Kept.setCell ?_ (by simp only [World.size_alloc, World.size_setCell, World.size_drew]; omega) _)) hb
    clear hk hb
    clear X1 X1l1 X1l2 X1l3 X1f X10 X11 X12 X13 X14
    clear X2 X2l1 X2l2 X2l3 X2f X20 X21 X22 X23 X24
    clear Bv1_5 Bv1_5l1 Bv1_5l2 Bv1_5l3 Bv1_5f Bv1_50
    have X2 := X2'
    clear X2'
    have Bv1_5 := Bv1_5'
    clear Bv1_5'
    have hk := hk'
    clear hk'
    have hz_w2 := hk.size
    have X2l := X2.lt
    have X2f := X2.free
    have X2l1 : w.heap.size + 1 < w2.heap.size + 1 := by omega
    have X2l2 : w.heap.size + 1 < w2.heap.size + 1 + 1 := by omega
    have X2l3 : w.heap.size + 1 < w2.heap.size + 1 + 1 + 1 := by omega
    have X20 := X2.cell 0 _ rfl
    have X21 := X2.cell 1 _ rfl
    have X22 := X2.cell 2 _ rfl
    have X23 := X2.cell 3 _ rfl
    have X24 := X2.cell 4 _ rfl
    have Bv1_5l := Bv1_5.lt
    have Bv1_5f := Bv1_5.free
    have Bv1_5l1 : v1_5 < w2.heap.size + 1 := by omega
    have Bv1_5l2 : v1_5 < w2.heap.size + 1 + 1 := by omega
    have Bv1_5l3 : v1_5 < w2.heap.size + 1 + 1 + 1 := by omega
    have Bv1_50 := Bv1_5.cell 0 _ rfl
    go_wp2_with fail
    (with_reducible refine (calls_to (V := .tuple #[wideV Q, .bool (q)]) (part_any hB (by repeat (first | with_reducible assumption | with_reducible apply Box.set10 | with_reducible apply Box.set20 | with_reducible apply Box.set21 | with_reducible apply Box.set40 | with_reducible apply Box.set41 | with_reducible apply Box.set42 | with_reducible apply Box.set43 | with_reducible apply Box.set50 | with_reducible apply Box.set51 | with_reducible apply Box.set52 | with_reducible apply Box.set53 | with_reducible apply Box.set54 | with_reducible apply Box.set80 | with_reducible apply Box.set81 | with_reducible apply Box.set82 | with_reducible apply Box.set83 | with_reducible apply Box.set84 | with_reducible apply Box.set85 | with_reducible apply Box.set86 | with_reducible apply Box.set87 | with_reducible apply Box.drew | (with_reducible apply Box.newAt; (try simp only [World.size_alloc, World.size_setCell, World.size_drew]); done) | with_reducible apply Box.alloc | (with_reducible apply Box.other; case hne => ((try simp only [World.size_alloc, World.size_setCell, World.size_drew]); omega))) : Box _ (v1_5) #[.int .i64 (expI y)]) (by omega) (by omega) (x := y)) (by rw [E2.out, HQ.out])).mono ?_)
    rintro e w3 ⟨rfl, hb⟩
    have Bv1_5' : Box w3 (v1_5) #[.int .i64 (expI y)] := Box.call hb (by repeat (first | with_reducible assumption | with_reducible apply Box.set10 | with_reducible apply Box.set20 | with_reducible apply Box.set21 | with_reducible apply Box.set40 | with_reducible apply Box.set41 | with_reducible apply Box.set42 | with_reducible apply Box.set43 | with_reducible apply Box.set50 | with_reducible apply Box.set51 | with_reducible apply Box.set52 | with_reducible apply Box.set53 | with_reducible apply Box.set54 | with_reducible apply Box.set80 | with_reducible apply Box.set81 | with_reducible apply Box.set82 | with_reducible apply Box.set83 | with_reducible apply Box.set84 | with_reducible apply Box.set85 | with_reducible apply Box.set86 | with_reducible apply Box.set87 | with_reducible apply Box.drew | (with_reducible apply Box.newAt; (try simp only [World.size_alloc, World.size_setCell, World.size_drew]); done) | with_reducible apply Box.alloc | (with_reducible apply Box.other; case hne => ((try simp only [World.size_alloc, World.size_setCell, World.size_drew]); omega))))
    have X3' : Box w3 (w2.heap.size) #[.int .u64 (limb 0 P), .int .u64 (limb 1 P), .int .u64 (limb 2 P), .int .u64 (limb 3 P)] := Box.call hb (by repeat (first | with_reducible assumption | with_reducible apply Box.set10 | with_reducible apply Box.set20 | with_reducible apply Box.set21 | with_reducible apply Box.set40 | with_reducible apply Box.set41 | with_reducible apply Box.set42 | with_reducible apply Box.set43 | with_reducible apply Box.set50 | with_reducible apply Box.set51 | with_reducible apply Box.set52 | with_reducible apply Box.set53 | with_reducible apply Box.set54 | with_reducible apply Box.set80 | with_reducible apply Box.set81 | with_reducible apply Box.set82 | with_reducible apply Box.set83 | with_reducible apply Box.set84 | with_reducible apply Box.set85 | with_reducible apply Box.set86 | with_reducible apply Box.set87 | with_reducible apply Box.drew | (with_reducible apply Box.newAt; (try simp only [World.size_alloc, World.size_setCell, World.size_drew]); done) | with_reducible apply Box.alloc | (with_reducible apply Box.other; case hne => ((try simp only [World.size_alloc, World.size_setCell, World.size_drew]); omega))))
    have hk' : Kept w.heap.size w w3 := Kept.step (by repeat (first | with_reducible exact hk | with_reducible exact Kept.refl _ | with_reducible refine Kept.alloc ?_ _ | with_reducible refine Kept.drew ?_ | with_reducible refine Kept.setCell ?_ (by simp only [World.size_alloc, World.size_setCell, World.size_drew]; omega) _)) hb
    clear hk hb
    clear X2 X2l1 X2l2 X2l3 X2f X20 X21 X22 X23 X24
    clear Bv1_5 Bv1_5l1 Bv1_5l2 Bv1_5l3 Bv1_5f Bv1_50
    have Bv1_5 := Bv1_5'
    clear Bv1_5'
    have X3 := X3'
    clear X3'
    have hk := hk'
    clear hk'
    have hz_w3 := hk.size
    have Bv1_5l := Bv1_5.lt
    have Bv1_5f := Bv1_5.free
    have Bv1_5l1 : v1_5 < w3.heap.size + 1 := by omega
    have Bv1_5l2 : v1_5 < w3.heap.size + 1 + 1 := by omega
    have Bv1_5l3 : v1_5 < w3.heap.size + 1 + 1 + 1 := by omega
    have Bv1_50 := Bv1_5.cell 0 _ rfl
    have X3l := X3.lt
    have X3f := X3.free
    have X3l1 : w2.heap.size < w3.heap.size + 1 := by omega
    have X3l2 : w2.heap.size < w3.heap.size + 1 + 1 := by omega
    have X3l3 : w2.heap.size < w3.heap.size + 1 + 1 + 1 := by omega
    have X30 := X3.cell 0 _ rfl
    have X31 := X3.cell 1 _ rfl
    have X32 := X3.cell 2 _ rfl
    have X33 := X3.cell 3 _ rfl
    go_wp2_with fail
    (with_reducible refine (calls_to (V := .int .i64 (c)) (CmpW_at (IsWide.of hP) (IsWide.of hQ) _) (by rw [HC.out])).mono ?_)
    rintro e w4 ⟨rfl, hb⟩
    have hk' : Kept w.heap.size w w4 := Kept.step (by repeat (first | with_reducible exact hk | with_reducible exact Kept.refl _ | with_reducible refine Kept.alloc ?_ _ | with_reducible refine Kept.drew ?_ | with_reducible refine Kept.setCell ?_ (by simp only [World.size_alloc, World.size_setCell, World.size_drew]; omega) _)) hb
    clear hk hb
    clear Bv1_5 Bv1_5l1 Bv1_5l2 Bv1_5l3 Bv1_5f Bv1_50
    clear X3 X3l1 X3l2 X3l3 X3f X30 X31 X32 X33
    have hk := hk'
    clear hk'
    have hz_w4 := hk.size
    go_wp2
    go_ret
    exact ⟨rfl, (by refine Kept.below ?_; repeat (first | with_reducible exact hk | with_reducible exact Kept.refl _ | with_reducible refine Kept.alloc ?_ _ | with_reducible refine Kept.drew ?_ | with_reducible refine Kept.setCell ?_ (by simp only [World.size_alloc, World.size_setCell, World.size_drew]; omega) _))⟩

set_option maxRecDepth 100000 in
set_option maxHeartbeats 8000000 in
theorem Cmp_ge_more {x y : Int} {A B P Q : Nat} {q : Bool} (hA : W256 A) (hB : W256 B) (hP : W256 P) (hQ : W256 Q) (hl : ¬ expI x < expI y) (e1 : rightN A (expI x - expI x) = P) (e2 : rightN B (expI x - expI y) = Q) (h2 : lostB A (expI x - expI x) = true) (h3 : lostB B (expI x - expI y) = q) (h1 : cmpN P Q = 0) (w : World) :
    Calls Try.prog 51 #[termV x A, termV y B] w fun e w' => e = .returned (.int .i64 (1)) ∧ Below w.heap.size w w' := by
  have hk := Kept.refl w
  have hx := expI_range x
  have hy := expI_range y
  have E1 := Lib.hid e1; have E2 := Lib.hid e2; have HC := Lib.hid h1; have HP := Lib.hid h2; have HQ := Lib.hid h3
  clear e1 e2 h1 h2 h3
  go_enter Try.func51, Try.ntmps51
  go_wp2
  refine wp_region_g 6 (fun W' => Kept w.heap.size w W' ∧ w.heap.size + 1 + 1 ≤ W'.heap.size ∧ Box W' (w.heap.size) #[.int .i64 (x), .int .u64 (limb 0 A), .int .u64 (limb 1 A), .int .u64 (limb 2 A), .int .u64 (limb 3 A)] ∧ Box W' (w.heap.size + 1) #[.int .i64 (y), .int .u64 (limb 0 B), .int .u64 (limb 1 B), .int .u64 (limb 2 B), .int .u64 (limb 3 B)]) (fun W' => Kept w.heap.size w W' ∧ w.heap.size + 1 + 1 ≤ W'.heap.size ∧ Box W' (w.heap.size) #[.int .i64 (x), .int .u64 (limb 0 A), .int .u64 (limb 1 A), .int .u64 (limb 2 A), .int .u64 (limb 3 A)] ∧ Box W' (w.heap.size + 1) #[.int .i64 (y), .int .u64 (limb 0 B), .int .u64 (limb 1 B), .int .u64 (limb 2 B), .int .u64 (limb 3 B)]) 1000 (w.heap.size + 1 + 1) [.known (termV x A), .known (.int .i64 (expI x)), .known (termV y B), .known (.int .i64 (expI y)), .known (.int .i64 (expI x)), .var #[.int .i64 0] 1000 [.int .i64 0]] (by kernel_rfl) (by kernel_rfl) (fun W W' h hb => ⟨h.1.step hb, Nat.le_trans (h.2.1) hb.size, Box.call hb (h.2.2.1), Box.call hb (h.2.2.2)⟩) (fun W W' h hb => ⟨h.1.step hb, Nat.le_trans (h.2.1) hb.size, Box.call hb (h.2.2.1), Box.call hb (h.2.2.2)⟩) (no_out (of_decide_eq_true (by kernel_rfl))) (.inl (by kernel_rfl)) (.inl (by kernel_rfl)) (fun _ h => h.2.1) (fun _ h => h.2.1) (⟨(by repeat (first | with_reducible exact hk | with_reducible exact Kept.refl _ | with_reducible refine Kept.alloc ?_ _ | with_reducible refine Kept.drew ?_ | with_reducible refine Kept.setCell ?_ (by simp only [World.size_alloc, World.size_setCell, World.size_drew]; omega) _)), (by (try simp only [World.size_alloc, World.size_setCell, World.size_drew]); omega), (by repeat (first | with_reducible assumption | with_reducible apply Box.set10 | with_reducible apply Box.set20 | with_reducible apply Box.set21 | with_reducible apply Box.set40 | with_reducible apply Box.set41 | with_reducible apply Box.set42 | with_reducible apply Box.set43 | with_reducible apply Box.set50 | with_reducible apply Box.set51 | with_reducible apply Box.set52 | with_reducible apply Box.set53 | with_reducible apply Box.set54 | with_reducible apply Box.set80 | with_reducible apply Box.set81 | with_reducible apply Box.set82 | with_reducible apply Box.set83 | with_reducible apply Box.set84 | with_reducible apply Box.set85 | with_reducible apply Box.set86 | with_reducible apply Box.set87 | with_reducible apply Box.drew | (with_reducible apply Box.newAt; (try simp only [World.size_alloc, World.size_setCell, World.size_drew]); done) | with_reducible apply Box.alloc | (with_reducible apply Box.other; case hne => ((try simp only [World.size_alloc, World.size_setCell, World.size_drew]); omega)))), (by repeat (first | with_reducible assumption | with_reducible apply Box.set10 | with_reducible apply Box.set20 | with_reducible apply Box.set21 | with_reducible apply Box.set40 | with_reducible apply Box.set41 | with_reducible apply Box.set42 | with_reducible apply Box.set43 | with_reducible apply Box.set50 | with_reducible apply Box.set51 | with_reducible apply Box.set52 | with_reducible apply Box.set53 | with_reducible apply Box.set54 | with_reducible apply Box.set80 | with_reducible apply Box.set81 | with_reducible apply Box.set82 | with_reducible apply Box.set83 | with_reducible apply Box.set84 | with_reducible apply Box.set85 | with_reducible apply Box.set86 | with_reducible apply Box.set87 | with_reducible apply Box.drew | (with_reducible apply Box.newAt; (try simp only [World.size_alloc, World.size_setCell, World.size_drew]); done) | with_reducible apply Box.alloc | (with_reducible apply Box.other; case hne => ((try simp only [World.size_alloc, World.size_setCell, World.size_drew]); omega))))⟩) ?_
  clear hk
  intro ρ
  simp only [List.take_succ_cons, List.take_zero, List.drop_succ_cons, List.drop_zero]
  refine ⟨?_, ?_⟩
  · as_aux_lemma =>
    intro y_ hS_ hO_ hD
    have Q := ((hS_ (by rfl)).2.2.1).cell
    have q0 := Q 0 _ rfl
    have q1 := Q 1 _ rfl
    have q2 := Q 2 _ rfl
    have q3 := Q 3 _ rfl
    have q4 := Q 4 _ rfl
    clear Q hS_ hO_ hD
    refine s_gen (V := termV x A) [.pointer (some ⟨w.heap.size, 0, none⟩)] (by kernel_rfl) (by kernel_rfl) (by kernel_rfl) ?_
    intro r_ hr_
    have o0_ : r_ (.tmp 2) = .pointer (some ⟨w.heap.size, 0, none⟩) := op_at hr_ 0 (by kernel_rfl) (by kernel_rfl)
    clear hr_
    go_simp; first | done | with_reducible rfl
  simp only [Act.put, planVG, List.setIfInBounds_toArray, List.set_cons_zero, List.set_cons_succ, List.getElem?_cons_zero, List.getElem?_cons_succ]
  refine ⟨?_, ?_⟩
  · as_aux_lemma =>
    intro y_ hS_ hO_ hD
    try clear hS
    clear hS_ hO_ hD
    refine s_gcall (V := .int .i64 (expI x)) [.func (.func 71) #[] #[], termV x A] ?_ ?_ (by kernel_rfl) (by kernel_rfl) (by kernel_rfl) ?_ ?_
    rotate_left 2
    · intro r_ hr_
      have o0_ : r_ (.func 71) = .func (.func 71) #[] #[] := op_at hr_ 0 (by kernel_rfl) (by kernel_rfl)
      have o1_ : r_ (.tmp 12) = termV x A := op_at hr_ 1 (by kernel_rfl) (by kernel_rfl)
      clear hr_
      go_simp; first | done | with_reducible rfl | (constructor <;> with_reducible rfl)
    · refine exp_any x A _
  simp only [Act.put, planVG, List.setIfInBounds_toArray, List.set_cons_zero, List.set_cons_succ, List.getElem?_cons_zero, List.getElem?_cons_succ]
  refine ⟨?_, ?_⟩
  · as_aux_lemma =>
    intro y_ hS_ hO_ hD
    have Q := ((hS_ (by rfl)).2.2.2).cell
    have q0 := Q 0 _ rfl
    have q1 := Q 1 _ rfl
    have q2 := Q 2 _ rfl
    have q3 := Q 3 _ rfl
    have q4 := Q 4 _ rfl
    clear Q hS_ hO_ hD
    refine s_gen (V := termV y B) [.pointer (some ⟨w.heap.size + 1, 0, none⟩)] (by kernel_rfl) (by kernel_rfl) (by kernel_rfl) ?_
    intro r_ hr_
    have o0_ : r_ (.tmp 3) = .pointer (some ⟨w.heap.size + 1, 0, none⟩) := op_at hr_ 0 (by kernel_rfl) (by kernel_rfl)
    clear hr_
    go_simp; first | done | with_reducible rfl
  simp only [Act.put, planVG, List.setIfInBounds_toArray, List.set_cons_zero, List.set_cons_succ, List.getElem?_cons_zero, List.getElem?_cons_succ]
  refine ⟨?_, ?_⟩
  · as_aux_lemma =>
    intro y_ hS_ hO_ hD
    try clear hS
    clear hS_ hO_ hD
    refine s_gcall (V := .int .i64 (expI y)) [.func (.func 71) #[] #[], termV y B] ?_ ?_ (by kernel_rfl) (by kernel_rfl) (by kernel_rfl) ?_ ?_
    rotate_left 2
    · intro r_ hr_
      have o0_ : r_ (.func 71) = .func (.func 71) #[] #[] := op_at hr_ 0 (by kernel_rfl) (by kernel_rfl)
      have o1_ : r_ (.tmp 14) = termV y B := op_at hr_ 1 (by kernel_rfl) (by kernel_rfl)
      clear hr_
      go_simp; first | done | with_reducible rfl | (constructor <;> with_reducible rfl)
    · refine exp_any y B _
  simp only [Act.put, planVG, List.setIfInBounds_toArray, List.set_cons_zero, List.set_cons_succ, List.getElem?_cons_zero, List.getElem?_cons_succ]
  refine ⟨?_, ?_⟩
  · as_aux_lemma =>
    intro y_ hS_ hO_ hD
    clear hS_ hO_ hD
    refine s_gen (V := .int .i64 (expI x)) [.int .i64 (expI x), .int .i64 (expI y)] (by kernel_rfl) (by kernel_rfl) (by kernel_rfl) ?_
    intro r_ hr_
    have o0_ : r_ (.tmp 13) = .int .i64 (expI x) := op_at hr_ 0 (by kernel_rfl) (by kernel_rfl)
    have o1_ : r_ (.tmp 15) = .int .i64 (expI y) := op_at hr_ 1 (by kernel_rfl) (by kernel_rfl)
    clear hr_
    go_simp; first | done | with_reducible rfl | omega
  simp only [Act.put, planVG, List.setIfInBounds_toArray, List.set_cons_zero, List.set_cons_succ, List.getElem?_cons_zero, List.getElem?_cons_succ]
  refine ⟨?_, ?_⟩
  · as_aux_lemma =>
    intro y_ hS_ hO_ hD
    clear hS_ hO_ hD
    refine s_alloc (by rfl) (by rfl) ?_
    simp only [allocTy]
    go_simp; first | done | with_reducible rfl | rfl
  simp only [Act.put, planVG, List.setIfInBounds_toArray, List.set_cons_zero, List.set_cons_succ, List.getElem?_cons_zero, List.getElem?_cons_succ]
  as_aux_lemma =>
    intro w1 hS hF hD_
    change wpList _ _ _ _ _ _
    replace hS := sg_no (by decide) hS
    obtain ⟨hk, hZ1, X1, X2⟩ := hS
    obtain ⟨v1_5, e_v1_5, hv1_5, Bv1_5⟩ : ∃ b, ρ 5 = .pointer (some ⟨b, 0, none⟩) ∧ w.heap.size + 1 + 1 ≤ b ∧ Box w1 b #[.int .i64 0] := by
      obtain ⟨b, h1, h2, h3⟩ := hF 5 (by decide)
      exact ⟨b, h1, h2, h3.lt, h3.cell, h3.free⟩
    clear hF hD_
    simp only [e_v1_5]
    clear e_v1_5
    clear ρ
    have hz_w1 := hk.size
    have X1l := X1.lt
    have X1f := X1.free
    have X1l1 : w.heap.size < w1.heap.size + 1 := by omega
    have X1l2 : w.heap.size < w1.heap.size + 1 + 1 := by omega
    have X1l3 : w.heap.size < w1.heap.size + 1 + 1 + 1 := by omega
    have X10 := X1.cell 0 _ rfl
    have X11 := X1.cell 1 _ rfl
    have X12 := X1.cell 2 _ rfl
    have X13 := X1.cell 3 _ rfl
    have X14 := X1.cell 4 _ rfl
    have X2l := X2.lt
    have X2f := X2.free
    have X2l1 : w.heap.size + 1 < w1.heap.size + 1 := by omega
    have X2l2 : w.heap.size + 1 < w1.heap.size + 1 + 1 := by omega
    have X2l3 : w.heap.size + 1 < w1.heap.size + 1 + 1 + 1 := by omega
    have X20 := X2.cell 0 _ rfl
    have X21 := X2.cell 1 _ rfl
    have X22 := X2.cell 2 _ rfl
    have X23 := X2.cell 3 _ rfl
    have X24 := X2.cell 4 _ rfl
    have Bv1_5l := Bv1_5.lt
    have Bv1_5f := Bv1_5.free
    have Bv1_5l1 : v1_5 < w1.heap.size + 1 := by omega
    have Bv1_5l2 : v1_5 < w1.heap.size + 1 + 1 := by omega
    have Bv1_5l3 : v1_5 < w1.heap.size + 1 + 1 + 1 := by omega
    have Bv1_50 := Bv1_5.cell 0 _ rfl
    go_wp2_with fail
    (with_reducible refine (calls_to (V := .tuple #[wideV P, .bool true]) (part_any hA (by repeat (first | with_reducible assumption | with_reducible apply Box.set10 | with_reducible apply Box.set20 | with_reducible apply Box.set21 | with_reducible apply Box.set40 | with_reducible apply Box.set41 | with_reducible apply Box.set42 | with_reducible apply Box.set43 | with_reducible apply Box.set50 | with_reducible apply Box.set51 | with_reducible apply Box.set52 | with_reducible apply Box.set53 | with_reducible apply Box.set54 | with_reducible apply Box.set80 | with_reducible apply Box.set81 | with_reducible apply Box.set82 | with_reducible apply Box.set83 | with_reducible apply Box.set84 | with_reducible apply Box.set85 | with_reducible apply Box.set86 | with_reducible apply Box.set87 | with_reducible apply Box.drew | (with_reducible apply Box.newAt; (try simp only [World.size_alloc, World.size_setCell, World.size_drew]); done) | with_reducible apply Box.alloc | (with_reducible apply Box.other; case hne => ((try simp only [World.size_alloc, World.size_setCell, World.size_drew]); omega))) : Box _ (v1_5) #[.int .i64 (expI x)]) (by omega) (by omega) (x := x)) (by rw [E1.out, HP.out])).mono ?_)
    rintro e w2 ⟨rfl, hb⟩
    have X2' : Box w2 (w.heap.size + 1) #[.int .i64 (y), .int .u64 (limb 0 B), .int .u64 (limb 1 B), .int .u64 (limb 2 B), .int .u64 (limb 3 B)] := Box.call hb (by repeat (first | with_reducible assumption | with_reducible apply Box.set10 | with_reducible apply Box.set20 | with_reducible apply Box.set21 | with_reducible apply Box.set40 | with_reducible apply Box.set41 | with_reducible apply Box.set42 | with_reducible apply Box.set43 | with_reducible apply Box.set50 | with_reducible apply Box.set51 | with_reducible apply Box.set52 | with_reducible apply Box.set53 | with_reducible apply Box.set54 | with_reducible apply Box.set80 | with_reducible apply Box.set81 | with_reducible apply Box.set82 | with_reducible apply Box.set83 | with_reducible apply Box.set84 | with_reducible apply Box.set85 | with_reducible apply Box.set86 | with_reducible apply Box.set87 | with_reducible apply Box.drew | (with_reducible apply Box.newAt; (try simp only [World.size_alloc, World.size_setCell, World.size_drew]); done) | with_reducible apply Box.alloc | (with_reducible apply Box.other; case hne => ((try simp only [World.size_alloc, World.size_setCell, World.size_drew]); omega))))
    have Bv1_5' : Box w2 (v1_5) #[.int .i64 (expI x)] := Box.call hb (by repeat (first | with_reducible assumption | with_reducible apply Box.set10 | with_reducible apply Box.set20 | with_reducible apply Box.set21 | with_reducible apply Box.set40 | with_reducible apply Box.set41 | with_reducible apply Box.set42 | with_reducible apply Box.set43 | with_reducible apply Box.set50 | with_reducible apply Box.set51 | with_reducible apply Box.set52 | with_reducible apply Box.set53 | with_reducible apply Box.set54 | with_reducible apply Box.set80 | with_reducible apply Box.set81 | with_reducible apply Box.set82 | with_reducible apply Box.set83 | with_reducible apply Box.set84 | with_reducible apply Box.set85 | with_reducible apply Box.set86 | with_reducible apply Box.set87 | with_reducible apply Box.drew | (with_reducible apply Box.newAt; (try simp only [World.size_alloc, World.size_setCell, World.size_drew]); done) | with_reducible apply Box.alloc | (with_reducible apply Box.other; case hne => ((try simp only [World.size_alloc, World.size_setCell, World.size_drew]); omega))))
    have hk' : Kept w.heap.size w w2 := Kept.step (by repeat (first | with_reducible exact hk | with_reducible exact Kept.refl _ | with_reducible refine Kept.alloc ?_ _ | with_reducible refine Kept.drew ?_ | with_reducible refine Kept.setCell ?_ (by simp only [World.size_alloc, World.size_setCell, World.size_drew]; omega) _)) hb
    clear hk hb
    clear X1 X1l1 X1l2 X1l3 X1f X10 X11 X12 X13 X14
    clear X2 X2l1 X2l2 X2l3 X2f X20 X21 X22 X23 X24
    clear Bv1_5 Bv1_5l1 Bv1_5l2 Bv1_5l3 Bv1_5f Bv1_50
    have X2 := X2'
    clear X2'
    have Bv1_5 := Bv1_5'
    clear Bv1_5'
    have hk := hk'
    clear hk'
    have hz_w2 := hk.size
    have X2l := X2.lt
    have X2f := X2.free
    have X2l1 : w.heap.size + 1 < w2.heap.size + 1 := by omega
    have X2l2 : w.heap.size + 1 < w2.heap.size + 1 + 1 := by omega
    have X2l3 : w.heap.size + 1 < w2.heap.size + 1 + 1 + 1 := by omega
    have X20 := X2.cell 0 _ rfl
    have X21 := X2.cell 1 _ rfl
    have X22 := X2.cell 2 _ rfl
    have X23 := X2.cell 3 _ rfl
    have X24 := X2.cell 4 _ rfl
    have Bv1_5l := Bv1_5.lt
    have Bv1_5f := Bv1_5.free
    have Bv1_5l1 : v1_5 < w2.heap.size + 1 := by omega
    have Bv1_5l2 : v1_5 < w2.heap.size + 1 + 1 := by omega
    have Bv1_5l3 : v1_5 < w2.heap.size + 1 + 1 + 1 := by omega
    have Bv1_50 := Bv1_5.cell 0 _ rfl
    go_wp2_with fail
    (with_reducible refine (calls_to (V := .tuple #[wideV Q, .bool (q)]) (part_any hB (by repeat (first | with_reducible assumption | with_reducible apply Box.set10 | with_reducible apply Box.set20 | with_reducible apply Box.set21 | with_reducible apply Box.set40 | with_reducible apply Box.set41 | with_reducible apply Box.set42 | with_reducible apply Box.set43 | with_reducible apply Box.set50 | with_reducible apply Box.set51 | with_reducible apply Box.set52 | with_reducible apply Box.set53 | with_reducible apply Box.set54 | with_reducible apply Box.set80 | with_reducible apply Box.set81 | with_reducible apply Box.set82 | with_reducible apply Box.set83 | with_reducible apply Box.set84 | with_reducible apply Box.set85 | with_reducible apply Box.set86 | with_reducible apply Box.set87 | with_reducible apply Box.drew | (with_reducible apply Box.newAt; (try simp only [World.size_alloc, World.size_setCell, World.size_drew]); done) | with_reducible apply Box.alloc | (with_reducible apply Box.other; case hne => ((try simp only [World.size_alloc, World.size_setCell, World.size_drew]); omega))) : Box _ (v1_5) #[.int .i64 (expI x)]) (by omega) (by omega) (x := y)) (by rw [E2.out, HQ.out])).mono ?_)
    rintro e w3 ⟨rfl, hb⟩
    have Bv1_5' : Box w3 (v1_5) #[.int .i64 (expI x)] := Box.call hb (by repeat (first | with_reducible assumption | with_reducible apply Box.set10 | with_reducible apply Box.set20 | with_reducible apply Box.set21 | with_reducible apply Box.set40 | with_reducible apply Box.set41 | with_reducible apply Box.set42 | with_reducible apply Box.set43 | with_reducible apply Box.set50 | with_reducible apply Box.set51 | with_reducible apply Box.set52 | with_reducible apply Box.set53 | with_reducible apply Box.set54 | with_reducible apply Box.set80 | with_reducible apply Box.set81 | with_reducible apply Box.set82 | with_reducible apply Box.set83 | with_reducible apply Box.set84 | with_reducible apply Box.set85 | with_reducible apply Box.set86 | with_reducible apply Box.set87 | with_reducible apply Box.drew | (with_reducible apply Box.newAt; (try simp only [World.size_alloc, World.size_setCell, World.size_drew]); done) | with_reducible apply Box.alloc | (with_reducible apply Box.other; case hne => ((try simp only [World.size_alloc, World.size_setCell, World.size_drew]); omega))))
    have X3' : Box w3 (w2.heap.size) #[.int .u64 (limb 0 P), .int .u64 (limb 1 P), .int .u64 (limb 2 P), .int .u64 (limb 3 P)] := Box.call hb (by repeat (first | with_reducible assumption | with_reducible apply Box.set10 | with_reducible apply Box.set20 | with_reducible apply Box.set21 | with_reducible apply Box.set40 | with_reducible apply Box.set41 | with_reducible apply Box.set42 | with_reducible apply Box.set43 | with_reducible apply Box.set50 | with_reducible apply Box.set51 | with_reducible apply Box.set52 | with_reducible apply Box.set53 | with_reducible apply Box.set54 | with_reducible apply Box.set80 | with_reducible apply Box.set81 | with_reducible apply Box.set82 | with_reducible apply Box.set83 | with_reducible apply Box.set84 | with_reducible apply Box.set85 | with_reducible apply Box.set86 | with_reducible apply Box.set87 | with_reducible apply Box.drew | (with_reducible apply Box.newAt; (try simp only [World.size_alloc, World.size_setCell, World.size_drew]); done) | with_reducible apply Box.alloc | (with_reducible apply Box.other; case hne => ((try simp only [World.size_alloc, World.size_setCell, World.size_drew]); omega))))
    have hk' : Kept w.heap.size w w3 := Kept.step (by repeat (first | with_reducible exact hk | with_reducible exact Kept.refl _ | with_reducible refine Kept.alloc ?_ _ | with_reducible refine Kept.drew ?_ | with_reducible refine Kept.setCell ?_ (by simp only [World.size_alloc, World.size_setCell, World.size_drew]; omega) _)) hb
    clear hk hb
    clear X2 X2l1 X2l2 X2l3 X2f X20 X21 X22 X23 X24
    clear Bv1_5 Bv1_5l1 Bv1_5l2 Bv1_5l3 Bv1_5f Bv1_50
    have Bv1_5 := Bv1_5'
    clear Bv1_5'
    have X3 := X3'
    clear X3'
    have hk := hk'
    clear hk'
    have hz_w3 := hk.size
    have Bv1_5l := Bv1_5.lt
    have Bv1_5f := Bv1_5.free
    have Bv1_5l1 : v1_5 < w3.heap.size + 1 := by omega
    have Bv1_5l2 : v1_5 < w3.heap.size + 1 + 1 := by omega
    have Bv1_5l3 : v1_5 < w3.heap.size + 1 + 1 + 1 := by omega
    have Bv1_50 := Bv1_5.cell 0 _ rfl
    have X3l := X3.lt
    have X3f := X3.free
    have X3l1 : w2.heap.size < w3.heap.size + 1 := by omega
    have X3l2 : w2.heap.size < w3.heap.size + 1 + 1 := by omega
    have X3l3 : w2.heap.size < w3.heap.size + 1 + 1 + 1 := by omega
    have X30 := X3.cell 0 _ rfl
    have X31 := X3.cell 1 _ rfl
    have X32 := X3.cell 2 _ rfl
    have X33 := X3.cell 3 _ rfl
    go_wp2_with fail
    (with_reducible refine (calls_to (V := .int .i64 0) (CmpW_at (IsWide.of hP) (IsWide.of hQ) _) (by rw [HC.out])).mono ?_)
    rintro e w4 ⟨rfl, hb⟩
    have hk' : Kept w.heap.size w w4 := Kept.step (by repeat (first | with_reducible exact hk | with_reducible exact Kept.refl _ | with_reducible refine Kept.alloc ?_ _ | with_reducible refine Kept.drew ?_ | with_reducible refine Kept.setCell ?_ (by simp only [World.size_alloc, World.size_setCell, World.size_drew]; omega) _)) hb
    clear hk hb
    clear Bv1_5 Bv1_5l1 Bv1_5l2 Bv1_5l3 Bv1_5f Bv1_50
    clear X3 X3l1 X3l2 X3l3 X3f X30 X31 X32 X33
    have hk := hk'
    clear hk'
    have hz_w4 := hk.size
    go_wp2
    go_ret
    exact ⟨rfl, (by refine Kept.below ?_; repeat (first | with_reducible exact hk | with_reducible exact Kept.refl _ | with_reducible refine Kept.alloc ?_ _ | with_reducible refine Kept.drew ?_ | with_reducible refine Kept.setCell ?_ (by simp only [World.size_alloc, World.size_setCell, World.size_drew]; omega) _))⟩

set_option maxRecDepth 100000 in
set_option maxHeartbeats 8000000 in
theorem Cmp_ge_also {x y : Int} {A B P Q : Nat} (hA : W256 A) (hB : W256 B) (hP : W256 P) (hQ : W256 Q) (hl : ¬ expI x < expI y) (e1 : rightN A (expI x - expI x) = P) (e2 : rightN B (expI x - expI y) = Q) (h2 : lostB A (expI x - expI x) = false) (h3 : lostB B (expI x - expI y) = true) (h1 : cmpN P Q = 0) (w : World) :
    Calls Try.prog 51 #[termV x A, termV y B] w fun e w' => e = .returned (.int .i64 (-1)) ∧ Below w.heap.size w w' := by
  have hk := Kept.refl w
  have hx := expI_range x
  have hy := expI_range y
  have E1 := Lib.hid e1; have E2 := Lib.hid e2; have HC := Lib.hid h1; have HP := Lib.hid h2; have HQ := Lib.hid h3
  clear e1 e2 h1 h2 h3
  go_enter Try.func51, Try.ntmps51
  go_wp2
  refine wp_region_g 6 (fun W' => Kept w.heap.size w W' ∧ w.heap.size + 1 + 1 ≤ W'.heap.size ∧ Box W' (w.heap.size) #[.int .i64 (x), .int .u64 (limb 0 A), .int .u64 (limb 1 A), .int .u64 (limb 2 A), .int .u64 (limb 3 A)] ∧ Box W' (w.heap.size + 1) #[.int .i64 (y), .int .u64 (limb 0 B), .int .u64 (limb 1 B), .int .u64 (limb 2 B), .int .u64 (limb 3 B)]) (fun W' => Kept w.heap.size w W' ∧ w.heap.size + 1 + 1 ≤ W'.heap.size ∧ Box W' (w.heap.size) #[.int .i64 (x), .int .u64 (limb 0 A), .int .u64 (limb 1 A), .int .u64 (limb 2 A), .int .u64 (limb 3 A)] ∧ Box W' (w.heap.size + 1) #[.int .i64 (y), .int .u64 (limb 0 B), .int .u64 (limb 1 B), .int .u64 (limb 2 B), .int .u64 (limb 3 B)]) 1000 (w.heap.size + 1 + 1) [.known (termV x A), .known (.int .i64 (expI x)), .known (termV y B), .known (.int .i64 (expI y)), .known (.int .i64 (expI x)), .var #[.int .i64 0] 1000 [.int .i64 0]] (by kernel_rfl) (by kernel_rfl) (fun W W' h hb => ⟨h.1.step hb, Nat.le_trans (h.2.1) hb.size, Box.call hb (h.2.2.1), Box.call hb (h.2.2.2)⟩) (fun W W' h hb => ⟨h.1.step hb, Nat.le_trans (h.2.1) hb.size, Box.call hb (h.2.2.1), Box.call hb (h.2.2.2)⟩) (no_out (of_decide_eq_true (by kernel_rfl))) (.inl (by kernel_rfl)) (.inl (by kernel_rfl)) (fun _ h => h.2.1) (fun _ h => h.2.1) (⟨(by repeat (first | with_reducible exact hk | with_reducible exact Kept.refl _ | with_reducible refine Kept.alloc ?_ _ | with_reducible refine Kept.drew ?_ | with_reducible refine Kept.setCell ?_ (by simp only [World.size_alloc, World.size_setCell, World.size_drew]; omega) _)), (by (try simp only [World.size_alloc, World.size_setCell, World.size_drew]); omega), (by repeat (first | with_reducible assumption | with_reducible apply Box.set10 | with_reducible apply Box.set20 | with_reducible apply Box.set21 | with_reducible apply Box.set40 | with_reducible apply Box.set41 | with_reducible apply Box.set42 | with_reducible apply Box.set43 | with_reducible apply Box.set50 | with_reducible apply Box.set51 | with_reducible apply Box.set52 | with_reducible apply Box.set53 | with_reducible apply Box.set54 | with_reducible apply Box.set80 | with_reducible apply Box.set81 | with_reducible apply Box.set82 | with_reducible apply Box.set83 | with_reducible apply Box.set84 | with_reducible apply Box.set85 | with_reducible apply Box.set86 | with_reducible apply Box.set87 | with_reducible apply Box.drew | (with_reducible apply Box.newAt; (try simp only [World.size_alloc, World.size_setCell, World.size_drew]); done) | with_reducible apply Box.alloc | (with_reducible apply Box.other; case hne => ((try simp only [World.size_alloc, World.size_setCell, World.size_drew]); omega)))), (by repeat (first | with_reducible assumption | with_reducible apply Box.set10 | with_reducible apply Box.set20 | with_reducible apply Box.set21 | with_reducible apply Box.set40 | with_reducible apply Box.set41 | with_reducible apply Box.set42 | with_reducible apply Box.set43 | with_reducible apply Box.set50 | with_reducible apply Box.set51 | with_reducible apply Box.set52 | with_reducible apply Box.set53 | with_reducible apply Box.set54 | with_reducible apply Box.set80 | with_reducible apply Box.set81 | with_reducible apply Box.set82 | with_reducible apply Box.set83 | with_reducible apply Box.set84 | with_reducible apply Box.set85 | with_reducible apply Box.set86 | with_reducible apply Box.set87 | with_reducible apply Box.drew | (with_reducible apply Box.newAt; (try simp only [World.size_alloc, World.size_setCell, World.size_drew]); done) | with_reducible apply Box.alloc | (with_reducible apply Box.other; case hne => ((try simp only [World.size_alloc, World.size_setCell, World.size_drew]); omega))))⟩) ?_
  clear hk
  intro ρ
  simp only [List.take_succ_cons, List.take_zero, List.drop_succ_cons, List.drop_zero]
  refine ⟨?_, ?_⟩
  · as_aux_lemma =>
    intro y_ hS_ hO_ hD
    have Q := ((hS_ (by rfl)).2.2.1).cell
    have q0 := Q 0 _ rfl
    have q1 := Q 1 _ rfl
    have q2 := Q 2 _ rfl
    have q3 := Q 3 _ rfl
    have q4 := Q 4 _ rfl
    clear Q hS_ hO_ hD
    refine s_gen (V := termV x A) [.pointer (some ⟨w.heap.size, 0, none⟩)] (by kernel_rfl) (by kernel_rfl) (by kernel_rfl) ?_
    intro r_ hr_
    have o0_ : r_ (.tmp 2) = .pointer (some ⟨w.heap.size, 0, none⟩) := op_at hr_ 0 (by kernel_rfl) (by kernel_rfl)
    clear hr_
    go_simp; first | done | with_reducible rfl
  simp only [Act.put, planVG, List.setIfInBounds_toArray, List.set_cons_zero, List.set_cons_succ, List.getElem?_cons_zero, List.getElem?_cons_succ]
  refine ⟨?_, ?_⟩
  · as_aux_lemma =>
    intro y_ hS_ hO_ hD
    try clear hS
    clear hS_ hO_ hD
    refine s_gcall (V := .int .i64 (expI x)) [.func (.func 71) #[] #[], termV x A] ?_ ?_ (by kernel_rfl) (by kernel_rfl) (by kernel_rfl) ?_ ?_
    rotate_left 2
    · intro r_ hr_
      have o0_ : r_ (.func 71) = .func (.func 71) #[] #[] := op_at hr_ 0 (by kernel_rfl) (by kernel_rfl)
      have o1_ : r_ (.tmp 12) = termV x A := op_at hr_ 1 (by kernel_rfl) (by kernel_rfl)
      clear hr_
      go_simp; first | done | with_reducible rfl | (constructor <;> with_reducible rfl)
    · refine exp_any x A _
  simp only [Act.put, planVG, List.setIfInBounds_toArray, List.set_cons_zero, List.set_cons_succ, List.getElem?_cons_zero, List.getElem?_cons_succ]
  refine ⟨?_, ?_⟩
  · as_aux_lemma =>
    intro y_ hS_ hO_ hD
    have Q := ((hS_ (by rfl)).2.2.2).cell
    have q0 := Q 0 _ rfl
    have q1 := Q 1 _ rfl
    have q2 := Q 2 _ rfl
    have q3 := Q 3 _ rfl
    have q4 := Q 4 _ rfl
    clear Q hS_ hO_ hD
    refine s_gen (V := termV y B) [.pointer (some ⟨w.heap.size + 1, 0, none⟩)] (by kernel_rfl) (by kernel_rfl) (by kernel_rfl) ?_
    intro r_ hr_
    have o0_ : r_ (.tmp 3) = .pointer (some ⟨w.heap.size + 1, 0, none⟩) := op_at hr_ 0 (by kernel_rfl) (by kernel_rfl)
    clear hr_
    go_simp; first | done | with_reducible rfl
  simp only [Act.put, planVG, List.setIfInBounds_toArray, List.set_cons_zero, List.set_cons_succ, List.getElem?_cons_zero, List.getElem?_cons_succ]
  refine ⟨?_, ?_⟩
  · as_aux_lemma =>
    intro y_ hS_ hO_ hD
    try clear hS
    clear hS_ hO_ hD
    refine s_gcall (V := .int .i64 (expI y)) [.func (.func 71) #[] #[], termV y B] ?_ ?_ (by kernel_rfl) (by kernel_rfl) (by kernel_rfl) ?_ ?_
    rotate_left 2
    · intro r_ hr_
      have o0_ : r_ (.func 71) = .func (.func 71) #[] #[] := op_at hr_ 0 (by kernel_rfl) (by kernel_rfl)
      have o1_ : r_ (.tmp 14) = termV y B := op_at hr_ 1 (by kernel_rfl) (by kernel_rfl)
      clear hr_
      go_simp; first | done | with_reducible rfl | (constructor <;> with_reducible rfl)
    · refine exp_any y B _
  simp only [Act.put, planVG, List.setIfInBounds_toArray, List.set_cons_zero, List.set_cons_succ, List.getElem?_cons_zero, List.getElem?_cons_succ]
  refine ⟨?_, ?_⟩
  · as_aux_lemma =>
    intro y_ hS_ hO_ hD
    clear hS_ hO_ hD
    refine s_gen (V := .int .i64 (expI x)) [.int .i64 (expI x), .int .i64 (expI y)] (by kernel_rfl) (by kernel_rfl) (by kernel_rfl) ?_
    intro r_ hr_
    have o0_ : r_ (.tmp 13) = .int .i64 (expI x) := op_at hr_ 0 (by kernel_rfl) (by kernel_rfl)
    have o1_ : r_ (.tmp 15) = .int .i64 (expI y) := op_at hr_ 1 (by kernel_rfl) (by kernel_rfl)
    clear hr_
    go_simp; first | done | with_reducible rfl | omega
  simp only [Act.put, planVG, List.setIfInBounds_toArray, List.set_cons_zero, List.set_cons_succ, List.getElem?_cons_zero, List.getElem?_cons_succ]
  refine ⟨?_, ?_⟩
  · as_aux_lemma =>
    intro y_ hS_ hO_ hD
    clear hS_ hO_ hD
    refine s_alloc (by rfl) (by rfl) ?_
    simp only [allocTy]
    go_simp; first | done | with_reducible rfl | rfl
  simp only [Act.put, planVG, List.setIfInBounds_toArray, List.set_cons_zero, List.set_cons_succ, List.getElem?_cons_zero, List.getElem?_cons_succ]
  as_aux_lemma =>
    intro w1 hS hF hD_
    change wpList _ _ _ _ _ _
    replace hS := sg_no (by decide) hS
    obtain ⟨hk, hZ1, X1, X2⟩ := hS
    obtain ⟨v1_5, e_v1_5, hv1_5, Bv1_5⟩ : ∃ b, ρ 5 = .pointer (some ⟨b, 0, none⟩) ∧ w.heap.size + 1 + 1 ≤ b ∧ Box w1 b #[.int .i64 0] := by
      obtain ⟨b, h1, h2, h3⟩ := hF 5 (by decide)
      exact ⟨b, h1, h2, h3.lt, h3.cell, h3.free⟩
    clear hF hD_
    simp only [e_v1_5]
    clear e_v1_5
    clear ρ
    have hz_w1 := hk.size
    have X1l := X1.lt
    have X1f := X1.free
    have X1l1 : w.heap.size < w1.heap.size + 1 := by omega
    have X1l2 : w.heap.size < w1.heap.size + 1 + 1 := by omega
    have X1l3 : w.heap.size < w1.heap.size + 1 + 1 + 1 := by omega
    have X10 := X1.cell 0 _ rfl
    have X11 := X1.cell 1 _ rfl
    have X12 := X1.cell 2 _ rfl
    have X13 := X1.cell 3 _ rfl
    have X14 := X1.cell 4 _ rfl
    have X2l := X2.lt
    have X2f := X2.free
    have X2l1 : w.heap.size + 1 < w1.heap.size + 1 := by omega
    have X2l2 : w.heap.size + 1 < w1.heap.size + 1 + 1 := by omega
    have X2l3 : w.heap.size + 1 < w1.heap.size + 1 + 1 + 1 := by omega
    have X20 := X2.cell 0 _ rfl
    have X21 := X2.cell 1 _ rfl
    have X22 := X2.cell 2 _ rfl
    have X23 := X2.cell 3 _ rfl
    have X24 := X2.cell 4 _ rfl
    have Bv1_5l := Bv1_5.lt
    have Bv1_5f := Bv1_5.free
    have Bv1_5l1 : v1_5 < w1.heap.size + 1 := by omega
    have Bv1_5l2 : v1_5 < w1.heap.size + 1 + 1 := by omega
    have Bv1_5l3 : v1_5 < w1.heap.size + 1 + 1 + 1 := by omega
    have Bv1_50 := Bv1_5.cell 0 _ rfl
    go_wp2_with fail
    (with_reducible refine (calls_to (V := .tuple #[wideV P, .bool false]) (part_any hA (by repeat (first | with_reducible assumption | with_reducible apply Box.set10 | with_reducible apply Box.set20 | with_reducible apply Box.set21 | with_reducible apply Box.set40 | with_reducible apply Box.set41 | with_reducible apply Box.set42 | with_reducible apply Box.set43 | with_reducible apply Box.set50 | with_reducible apply Box.set51 | with_reducible apply Box.set52 | with_reducible apply Box.set53 | with_reducible apply Box.set54 | with_reducible apply Box.set80 | with_reducible apply Box.set81 | with_reducible apply Box.set82 | with_reducible apply Box.set83 | with_reducible apply Box.set84 | with_reducible apply Box.set85 | with_reducible apply Box.set86 | with_reducible apply Box.set87 | with_reducible apply Box.drew | (with_reducible apply Box.newAt; (try simp only [World.size_alloc, World.size_setCell, World.size_drew]); done) | with_reducible apply Box.alloc | (with_reducible apply Box.other; case hne => ((try simp only [World.size_alloc, World.size_setCell, World.size_drew]); omega))) : Box _ (v1_5) #[.int .i64 (expI x)]) (by omega) (by omega) (x := x)) (by rw [E1.out, HP.out])).mono ?_)
    rintro e w2 ⟨rfl, hb⟩
    have X2' : Box w2 (w.heap.size + 1) #[.int .i64 (y), .int .u64 (limb 0 B), .int .u64 (limb 1 B), .int .u64 (limb 2 B), .int .u64 (limb 3 B)] := Box.call hb (by repeat (first | with_reducible assumption | with_reducible apply Box.set10 | with_reducible apply Box.set20 | with_reducible apply Box.set21 | with_reducible apply Box.set40 | with_reducible apply Box.set41 | with_reducible apply Box.set42 | with_reducible apply Box.set43 | with_reducible apply Box.set50 | with_reducible apply Box.set51 | with_reducible apply Box.set52 | with_reducible apply Box.set53 | with_reducible apply Box.set54 | with_reducible apply Box.set80 | with_reducible apply Box.set81 | with_reducible apply Box.set82 | with_reducible apply Box.set83 | with_reducible apply Box.set84 | with_reducible apply Box.set85 | with_reducible apply Box.set86 | with_reducible apply Box.set87 | with_reducible apply Box.drew | (with_reducible apply Box.newAt; (try simp only [World.size_alloc, World.size_setCell, World.size_drew]); done) | with_reducible apply Box.alloc | (with_reducible apply Box.other; case hne => ((try simp only [World.size_alloc, World.size_setCell, World.size_drew]); omega))))
    have Bv1_5' : Box w2 (v1_5) #[.int .i64 (expI x)] := Box.call hb (by repeat (first | with_reducible assumption | with_reducible apply Box.set10 | with_reducible apply Box.set20 | with_reducible apply Box.set21 | with_reducible apply Box.set40 | with_reducible apply Box.set41 | with_reducible apply Box.set42 | with_reducible apply Box.set43 | with_reducible apply Box.set50 | with_reducible apply Box.set51 | with_reducible apply Box.set52 | with_reducible apply Box.set53 | with_reducible apply Box.set54 | with_reducible apply Box.set80 | with_reducible apply Box.set81 | with_reducible apply Box.set82 | with_reducible apply Box.set83 | with_reducible apply Box.set84 | with_reducible apply Box.set85 | with_reducible apply Box.set86 | with_reducible apply Box.set87 | with_reducible apply Box.drew | (with_reducible apply Box.newAt; (try simp only [World.size_alloc, World.size_setCell, World.size_drew]); done) | with_reducible apply Box.alloc | (with_reducible apply Box.other; case hne => ((try simp only [World.size_alloc, World.size_setCell, World.size_drew]); omega))))
    have hk' : Kept w.heap.size w w2 := Kept.step (by repeat (first | with_reducible exact hk | with_reducible exact Kept.refl _ | with_reducible refine Kept.alloc ?_ _ | with_reducible refine Kept.drew ?_ | with_reducible refine Kept.setCell ?_ (by simp only [World.size_alloc, World.size_setCell, World.size_drew]; omega) _)) hb
    clear hk hb
    clear X1 X1l1 X1l2 X1l3 X1f X10 X11 X12 X13 X14
    clear X2 X2l1 X2l2 X2l3 X2f X20 X21 X22 X23 X24
    clear Bv1_5 Bv1_5l1 Bv1_5l2 Bv1_5l3 Bv1_5f Bv1_50
    have X2 := X2'
    clear X2'
    have Bv1_5 := Bv1_5'
    clear Bv1_5'
    have hk := hk'
    clear hk'
    have hz_w2 := hk.size
    have X2l := X2.lt
    have X2f := X2.free
    have X2l1 : w.heap.size + 1 < w2.heap.size + 1 := by omega
    have X2l2 : w.heap.size + 1 < w2.heap.size + 1 + 1 := by omega
    have X2l3 : w.heap.size + 1 < w2.heap.size + 1 + 1 + 1 := by omega
    have X20 := X2.cell 0 _ rfl
    have X21 := X2.cell 1 _ rfl
    have X22 := X2.cell 2 _ rfl
    have X23 := X2.cell 3 _ rfl
    have X24 := X2.cell 4 _ rfl
    have Bv1_5l := Bv1_5.lt
    have Bv1_5f := Bv1_5.free
    have Bv1_5l1 : v1_5 < w2.heap.size + 1 := by omega
    have Bv1_5l2 : v1_5 < w2.heap.size + 1 + 1 := by omega
    have Bv1_5l3 : v1_5 < w2.heap.size + 1 + 1 + 1 := by omega
    have Bv1_50 := Bv1_5.cell 0 _ rfl
    go_wp2_with fail
    (with_reducible refine (calls_to (V := .tuple #[wideV Q, .bool true]) (part_any hB (by repeat (first | with_reducible assumption | with_reducible apply Box.set10 | with_reducible apply Box.set20 | with_reducible apply Box.set21 | with_reducible apply Box.set40 | with_reducible apply Box.set41 | with_reducible apply Box.set42 | with_reducible apply Box.set43 | with_reducible apply Box.set50 | with_reducible apply Box.set51 | with_reducible apply Box.set52 | with_reducible apply Box.set53 | with_reducible apply Box.set54 | with_reducible apply Box.set80 | with_reducible apply Box.set81 | with_reducible apply Box.set82 | with_reducible apply Box.set83 | with_reducible apply Box.set84 | with_reducible apply Box.set85 | with_reducible apply Box.set86 | with_reducible apply Box.set87 | with_reducible apply Box.drew | (with_reducible apply Box.newAt; (try simp only [World.size_alloc, World.size_setCell, World.size_drew]); done) | with_reducible apply Box.alloc | (with_reducible apply Box.other; case hne => ((try simp only [World.size_alloc, World.size_setCell, World.size_drew]); omega))) : Box _ (v1_5) #[.int .i64 (expI x)]) (by omega) (by omega) (x := y)) (by rw [E2.out, HQ.out])).mono ?_)
    rintro e w3 ⟨rfl, hb⟩
    have Bv1_5' : Box w3 (v1_5) #[.int .i64 (expI x)] := Box.call hb (by repeat (first | with_reducible assumption | with_reducible apply Box.set10 | with_reducible apply Box.set20 | with_reducible apply Box.set21 | with_reducible apply Box.set40 | with_reducible apply Box.set41 | with_reducible apply Box.set42 | with_reducible apply Box.set43 | with_reducible apply Box.set50 | with_reducible apply Box.set51 | with_reducible apply Box.set52 | with_reducible apply Box.set53 | with_reducible apply Box.set54 | with_reducible apply Box.set80 | with_reducible apply Box.set81 | with_reducible apply Box.set82 | with_reducible apply Box.set83 | with_reducible apply Box.set84 | with_reducible apply Box.set85 | with_reducible apply Box.set86 | with_reducible apply Box.set87 | with_reducible apply Box.drew | (with_reducible apply Box.newAt; (try simp only [World.size_alloc, World.size_setCell, World.size_drew]); done) | with_reducible apply Box.alloc | (with_reducible apply Box.other; case hne => ((try simp only [World.size_alloc, World.size_setCell, World.size_drew]); omega))))
    have X3' : Box w3 (w2.heap.size) #[.int .u64 (limb 0 P), .int .u64 (limb 1 P), .int .u64 (limb 2 P), .int .u64 (limb 3 P)] := Box.call hb (by repeat (first | with_reducible assumption | with_reducible apply Box.set10 | with_reducible apply Box.set20 | with_reducible apply Box.set21 | with_reducible apply Box.set40 | with_reducible apply Box.set41 | with_reducible apply Box.set42 | with_reducible apply Box.set43 | with_reducible apply Box.set50 | with_reducible apply Box.set51 | with_reducible apply Box.set52 | with_reducible apply Box.set53 | with_reducible apply Box.set54 | with_reducible apply Box.set80 | with_reducible apply Box.set81 | with_reducible apply Box.set82 | with_reducible apply Box.set83 | with_reducible apply Box.set84 | with_reducible apply Box.set85 | with_reducible apply Box.set86 | with_reducible apply Box.set87 | with_reducible apply Box.drew | (with_reducible apply Box.newAt; (try simp only [World.size_alloc, World.size_setCell, World.size_drew]); done) | with_reducible apply Box.alloc | (with_reducible apply Box.other; case hne => ((try simp only [World.size_alloc, World.size_setCell, World.size_drew]); omega))))
    have hk' : Kept w.heap.size w w3 := Kept.step (by repeat (first | with_reducible exact hk | with_reducible exact Kept.refl _ | with_reducible refine Kept.alloc ?_ _ | with_reducible refine Kept.drew ?_ | with_reducible refine Kept.setCell ?_ (by simp only [World.size_alloc, World.size_setCell, World.size_drew]; omega) _)) hb
    clear hk hb
    clear X2 X2l1 X2l2 X2l3 X2f X20 X21 X22 X23 X24
    clear Bv1_5 Bv1_5l1 Bv1_5l2 Bv1_5l3 Bv1_5f Bv1_50
    have Bv1_5 := Bv1_5'
    clear Bv1_5'
    have X3 := X3'
    clear X3'
    have hk := hk'
    clear hk'
    have hz_w3 := hk.size
    have Bv1_5l := Bv1_5.lt
    have Bv1_5f := Bv1_5.free
    have Bv1_5l1 : v1_5 < w3.heap.size + 1 := by omega
    have Bv1_5l2 : v1_5 < w3.heap.size + 1 + 1 := by omega
    have Bv1_5l3 : v1_5 < w3.heap.size + 1 + 1 + 1 := by omega
    have Bv1_50 := Bv1_5.cell 0 _ rfl
    have X3l := X3.lt
    have X3f := X3.free
    have X3l1 : w2.heap.size < w3.heap.size + 1 := by omega
    have X3l2 : w2.heap.size < w3.heap.size + 1 + 1 := by omega
    have X3l3 : w2.heap.size < w3.heap.size + 1 + 1 + 1 := by omega
    have X30 := X3.cell 0 _ rfl
    have X31 := X3.cell 1 _ rfl
    have X32 := X3.cell 2 _ rfl
    have X33 := X3.cell 3 _ rfl
    go_wp2_with fail
    (with_reducible refine (calls_to (V := .int .i64 0) (CmpW_at (IsWide.of hP) (IsWide.of hQ) _) (by rw [HC.out])).mono ?_)
    rintro e w4 ⟨rfl, hb⟩
    have hk' : Kept w.heap.size w w4 := Kept.step (by repeat (first | with_reducible exact hk | with_reducible exact Kept.refl _ | with_reducible refine Kept.alloc ?_ _ | with_reducible refine Kept.drew ?_ | with_reducible refine Kept.setCell ?_ (by simp only [World.size_alloc, World.size_setCell, World.size_drew]; omega) _)) hb
    clear hk hb
    clear Bv1_5 Bv1_5l1 Bv1_5l2 Bv1_5l3 Bv1_5f Bv1_50
    clear X3 X3l1 X3l2 X3l3 X3f X30 X31 X32 X33
    have hk := hk'
    clear hk'
    have hz_w4 := hk.size
    go_wp2
    go_ret
    exact ⟨rfl, (by refine Kept.below ?_; repeat (first | with_reducible exact hk | with_reducible exact Kept.refl _ | with_reducible refine Kept.alloc ?_ _ | with_reducible refine Kept.drew ?_ | with_reducible refine Kept.setCell ?_ (by simp only [World.size_alloc, World.size_setCell, World.size_drew]; omega) _))⟩

set_option maxRecDepth 100000 in
set_option maxHeartbeats 8000000 in
theorem Cmp_ge_same {x y : Int} {A B P Q : Nat} (hA : W256 A) (hB : W256 B) (hP : W256 P) (hQ : W256 Q) (hl : ¬ expI x < expI y) (e1 : rightN A (expI x - expI x) = P) (e2 : rightN B (expI x - expI y) = Q) (h2 : lostB A (expI x - expI x) = false) (h3 : lostB B (expI x - expI y) = false) (h1 : cmpN P Q = 0) (w : World) :
    Calls Try.prog 51 #[termV x A, termV y B] w fun e w' => e = .returned (.int .i64 (0)) ∧ Below w.heap.size w w' := by
  have hk := Kept.refl w
  have hx := expI_range x
  have hy := expI_range y
  have E1 := Lib.hid e1; have E2 := Lib.hid e2; have HC := Lib.hid h1; have HP := Lib.hid h2; have HQ := Lib.hid h3
  clear e1 e2 h1 h2 h3
  go_enter Try.func51, Try.ntmps51
  go_wp2
  refine wp_region_g 6 (fun W' => Kept w.heap.size w W' ∧ w.heap.size + 1 + 1 ≤ W'.heap.size ∧ Box W' (w.heap.size) #[.int .i64 (x), .int .u64 (limb 0 A), .int .u64 (limb 1 A), .int .u64 (limb 2 A), .int .u64 (limb 3 A)] ∧ Box W' (w.heap.size + 1) #[.int .i64 (y), .int .u64 (limb 0 B), .int .u64 (limb 1 B), .int .u64 (limb 2 B), .int .u64 (limb 3 B)]) (fun W' => Kept w.heap.size w W' ∧ w.heap.size + 1 + 1 ≤ W'.heap.size ∧ Box W' (w.heap.size) #[.int .i64 (x), .int .u64 (limb 0 A), .int .u64 (limb 1 A), .int .u64 (limb 2 A), .int .u64 (limb 3 A)] ∧ Box W' (w.heap.size + 1) #[.int .i64 (y), .int .u64 (limb 0 B), .int .u64 (limb 1 B), .int .u64 (limb 2 B), .int .u64 (limb 3 B)]) 1000 (w.heap.size + 1 + 1) [.known (termV x A), .known (.int .i64 (expI x)), .known (termV y B), .known (.int .i64 (expI y)), .known (.int .i64 (expI x)), .var #[.int .i64 0] 1000 [.int .i64 0]] (by kernel_rfl) (by kernel_rfl) (fun W W' h hb => ⟨h.1.step hb, Nat.le_trans (h.2.1) hb.size, Box.call hb (h.2.2.1), Box.call hb (h.2.2.2)⟩) (fun W W' h hb => ⟨h.1.step hb, Nat.le_trans (h.2.1) hb.size, Box.call hb (h.2.2.1), Box.call hb (h.2.2.2)⟩) (no_out (of_decide_eq_true (by kernel_rfl))) (.inl (by kernel_rfl)) (.inl (by kernel_rfl)) (fun _ h => h.2.1) (fun _ h => h.2.1) (⟨(by repeat (first | with_reducible exact hk | with_reducible exact Kept.refl _ | with_reducible refine Kept.alloc ?_ _ | with_reducible refine Kept.drew ?_ | with_reducible refine Kept.setCell ?_ (by simp only [World.size_alloc, World.size_setCell, World.size_drew]; omega) _)), (by (try simp only [World.size_alloc, World.size_setCell, World.size_drew]); omega), (by repeat (first | with_reducible assumption | with_reducible apply Box.set10 | with_reducible apply Box.set20 | with_reducible apply Box.set21 | with_reducible apply Box.set40 | with_reducible apply Box.set41 | with_reducible apply Box.set42 | with_reducible apply Box.set43 | with_reducible apply Box.set50 | with_reducible apply Box.set51 | with_reducible apply Box.set52 | with_reducible apply Box.set53 | with_reducible apply Box.set54 | with_reducible apply Box.set80 | with_reducible apply Box.set81 | with_reducible apply Box.set82 | with_reducible apply Box.set83 | with_reducible apply Box.set84 | with_reducible apply Box.set85 | with_reducible apply Box.set86 | with_reducible apply Box.set87 | with_reducible apply Box.drew | (with_reducible apply Box.newAt; (try simp only [World.size_alloc, World.size_setCell, World.size_drew]); done) | with_reducible apply Box.alloc | (with_reducible apply Box.other; case hne => ((try simp only [World.size_alloc, World.size_setCell, World.size_drew]); omega)))), (by repeat (first | with_reducible assumption | with_reducible apply Box.set10 | with_reducible apply Box.set20 | with_reducible apply Box.set21 | with_reducible apply Box.set40 | with_reducible apply Box.set41 | with_reducible apply Box.set42 | with_reducible apply Box.set43 | with_reducible apply Box.set50 | with_reducible apply Box.set51 | with_reducible apply Box.set52 | with_reducible apply Box.set53 | with_reducible apply Box.set54 | with_reducible apply Box.set80 | with_reducible apply Box.set81 | with_reducible apply Box.set82 | with_reducible apply Box.set83 | with_reducible apply Box.set84 | with_reducible apply Box.set85 | with_reducible apply Box.set86 | with_reducible apply Box.set87 | with_reducible apply Box.drew | (with_reducible apply Box.newAt; (try simp only [World.size_alloc, World.size_setCell, World.size_drew]); done) | with_reducible apply Box.alloc | (with_reducible apply Box.other; case hne => ((try simp only [World.size_alloc, World.size_setCell, World.size_drew]); omega))))⟩) ?_
  clear hk
  intro ρ
  simp only [List.take_succ_cons, List.take_zero, List.drop_succ_cons, List.drop_zero]
  refine ⟨?_, ?_⟩
  · as_aux_lemma =>
    intro y_ hS_ hO_ hD
    have Q := ((hS_ (by rfl)).2.2.1).cell
    have q0 := Q 0 _ rfl
    have q1 := Q 1 _ rfl
    have q2 := Q 2 _ rfl
    have q3 := Q 3 _ rfl
    have q4 := Q 4 _ rfl
    clear Q hS_ hO_ hD
    refine s_gen (V := termV x A) [.pointer (some ⟨w.heap.size, 0, none⟩)] (by kernel_rfl) (by kernel_rfl) (by kernel_rfl) ?_
    intro r_ hr_
    have o0_ : r_ (.tmp 2) = .pointer (some ⟨w.heap.size, 0, none⟩) := op_at hr_ 0 (by kernel_rfl) (by kernel_rfl)
    clear hr_
    go_simp; first | done | with_reducible rfl
  simp only [Act.put, planVG, List.setIfInBounds_toArray, List.set_cons_zero, List.set_cons_succ, List.getElem?_cons_zero, List.getElem?_cons_succ]
  refine ⟨?_, ?_⟩
  · as_aux_lemma =>
    intro y_ hS_ hO_ hD
    try clear hS
    clear hS_ hO_ hD
    refine s_gcall (V := .int .i64 (expI x)) [.func (.func 71) #[] #[], termV x A] ?_ ?_ (by kernel_rfl) (by kernel_rfl) (by kernel_rfl) ?_ ?_
    rotate_left 2
    · intro r_ hr_
      have o0_ : r_ (.func 71) = .func (.func 71) #[] #[] := op_at hr_ 0 (by kernel_rfl) (by kernel_rfl)
      have o1_ : r_ (.tmp 12) = termV x A := op_at hr_ 1 (by kernel_rfl) (by kernel_rfl)
      clear hr_
      go_simp; first | done | with_reducible rfl | (constructor <;> with_reducible rfl)
    · refine exp_any x A _
  simp only [Act.put, planVG, List.setIfInBounds_toArray, List.set_cons_zero, List.set_cons_succ, List.getElem?_cons_zero, List.getElem?_cons_succ]
  refine ⟨?_, ?_⟩
  · as_aux_lemma =>
    intro y_ hS_ hO_ hD
    have Q := ((hS_ (by rfl)).2.2.2).cell
    have q0 := Q 0 _ rfl
    have q1 := Q 1 _ rfl
    have q2 := Q 2 _ rfl
    have q3 := Q 3 _ rfl
    have q4 := Q 4 _ rfl
    clear Q hS_ hO_ hD
    refine s_gen (V := termV y B) [.pointer (some ⟨w.heap.size + 1, 0, none⟩)] (by kernel_rfl) (by kernel_rfl) (by kernel_rfl) ?_
    intro r_ hr_
    have o0_ : r_ (.tmp 3) = .pointer (some ⟨w.heap.size + 1, 0, none⟩) := op_at hr_ 0 (by kernel_rfl) (by kernel_rfl)
    clear hr_
    go_simp; first | done | with_reducible rfl
  simp only [Act.put, planVG, List.setIfInBounds_toArray, List.set_cons_zero, List.set_cons_succ, List.getElem?_cons_zero, List.getElem?_cons_succ]
  refine ⟨?_, ?_⟩
  · as_aux_lemma =>
    intro y_ hS_ hO_ hD
    try clear hS
    clear hS_ hO_ hD
    refine s_gcall (V := .int .i64 (expI y)) [.func (.func 71) #[] #[], termV y B] ?_ ?_ (by kernel_rfl) (by kernel_rfl) (by kernel_rfl) ?_ ?_
    rotate_left 2
    · intro r_ hr_
      have o0_ : r_ (.func 71) = .func (.func 71) #[] #[] := op_at hr_ 0 (by kernel_rfl) (by kernel_rfl)
      have o1_ : r_ (.tmp 14) = termV y B := op_at hr_ 1 (by kernel_rfl) (by kernel_rfl)
      clear hr_
      go_simp; first | done | with_reducible rfl | (constructor <;> with_reducible rfl)
    · refine exp_any y B _
  simp only [Act.put, planVG, List.setIfInBounds_toArray, List.set_cons_zero, List.set_cons_succ, List.getElem?_cons_zero, List.getElem?_cons_succ]
  refine ⟨?_, ?_⟩
  · as_aux_lemma =>
    intro y_ hS_ hO_ hD
    clear hS_ hO_ hD
    refine s_gen (V := .int .i64 (expI x)) [.int .i64 (expI x), .int .i64 (expI y)] (by kernel_rfl) (by kernel_rfl) (by kernel_rfl) ?_
    intro r_ hr_
    have o0_ : r_ (.tmp 13) = .int .i64 (expI x) := op_at hr_ 0 (by kernel_rfl) (by kernel_rfl)
    have o1_ : r_ (.tmp 15) = .int .i64 (expI y) := op_at hr_ 1 (by kernel_rfl) (by kernel_rfl)
    clear hr_
    go_simp; first | done | with_reducible rfl | omega
  simp only [Act.put, planVG, List.setIfInBounds_toArray, List.set_cons_zero, List.set_cons_succ, List.getElem?_cons_zero, List.getElem?_cons_succ]
  refine ⟨?_, ?_⟩
  · as_aux_lemma =>
    intro y_ hS_ hO_ hD
    clear hS_ hO_ hD
    refine s_alloc (by rfl) (by rfl) ?_
    simp only [allocTy]
    go_simp; first | done | with_reducible rfl | rfl
  simp only [Act.put, planVG, List.setIfInBounds_toArray, List.set_cons_zero, List.set_cons_succ, List.getElem?_cons_zero, List.getElem?_cons_succ]
  as_aux_lemma =>
    intro w1 hS hF hD_
    change wpList _ _ _ _ _ _
    replace hS := sg_no (by decide) hS
    obtain ⟨hk, hZ1, X1, X2⟩ := hS
    obtain ⟨v1_5, e_v1_5, hv1_5, Bv1_5⟩ : ∃ b, ρ 5 = .pointer (some ⟨b, 0, none⟩) ∧ w.heap.size + 1 + 1 ≤ b ∧ Box w1 b #[.int .i64 0] := by
      obtain ⟨b, h1, h2, h3⟩ := hF 5 (by decide)
      exact ⟨b, h1, h2, h3.lt, h3.cell, h3.free⟩
    clear hF hD_
    simp only [e_v1_5]
    clear e_v1_5
    clear ρ
    have hz_w1 := hk.size
    have X1l := X1.lt
    have X1f := X1.free
    have X1l1 : w.heap.size < w1.heap.size + 1 := by omega
    have X1l2 : w.heap.size < w1.heap.size + 1 + 1 := by omega
    have X1l3 : w.heap.size < w1.heap.size + 1 + 1 + 1 := by omega
    have X10 := X1.cell 0 _ rfl
    have X11 := X1.cell 1 _ rfl
    have X12 := X1.cell 2 _ rfl
    have X13 := X1.cell 3 _ rfl
    have X14 := X1.cell 4 _ rfl
    have X2l := X2.lt
    have X2f := X2.free
    have X2l1 : w.heap.size + 1 < w1.heap.size + 1 := by omega
    have X2l2 : w.heap.size + 1 < w1.heap.size + 1 + 1 := by omega
    have X2l3 : w.heap.size + 1 < w1.heap.size + 1 + 1 + 1 := by omega
    have X20 := X2.cell 0 _ rfl
    have X21 := X2.cell 1 _ rfl
    have X22 := X2.cell 2 _ rfl
    have X23 := X2.cell 3 _ rfl
    have X24 := X2.cell 4 _ rfl
    have Bv1_5l := Bv1_5.lt
    have Bv1_5f := Bv1_5.free
    have Bv1_5l1 : v1_5 < w1.heap.size + 1 := by omega
    have Bv1_5l2 : v1_5 < w1.heap.size + 1 + 1 := by omega
    have Bv1_5l3 : v1_5 < w1.heap.size + 1 + 1 + 1 := by omega
    have Bv1_50 := Bv1_5.cell 0 _ rfl
    go_wp2_with fail
    (with_reducible refine (calls_to (V := .tuple #[wideV P, .bool false]) (part_any hA (by repeat (first | with_reducible assumption | with_reducible apply Box.set10 | with_reducible apply Box.set20 | with_reducible apply Box.set21 | with_reducible apply Box.set40 | with_reducible apply Box.set41 | with_reducible apply Box.set42 | with_reducible apply Box.set43 | with_reducible apply Box.set50 | with_reducible apply Box.set51 | with_reducible apply Box.set52 | with_reducible apply Box.set53 | with_reducible apply Box.set54 | with_reducible apply Box.set80 | with_reducible apply Box.set81 | with_reducible apply Box.set82 | with_reducible apply Box.set83 | with_reducible apply Box.set84 | with_reducible apply Box.set85 | with_reducible apply Box.set86 | with_reducible apply Box.set87 | with_reducible apply Box.drew | (with_reducible apply Box.newAt; (try simp only [World.size_alloc, World.size_setCell, World.size_drew]); done) | with_reducible apply Box.alloc | (with_reducible apply Box.other; case hne => ((try simp only [World.size_alloc, World.size_setCell, World.size_drew]); omega))) : Box _ (v1_5) #[.int .i64 (expI x)]) (by omega) (by omega) (x := x)) (by rw [E1.out, HP.out])).mono ?_)
    rintro e w2 ⟨rfl, hb⟩
    have X2' : Box w2 (w.heap.size + 1) #[.int .i64 (y), .int .u64 (limb 0 B), .int .u64 (limb 1 B), .int .u64 (limb 2 B), .int .u64 (limb 3 B)] := Box.call hb (by repeat (first | with_reducible assumption | with_reducible apply Box.set10 | with_reducible apply Box.set20 | with_reducible apply Box.set21 | with_reducible apply Box.set40 | with_reducible apply Box.set41 | with_reducible apply Box.set42 | with_reducible apply Box.set43 | with_reducible apply Box.set50 | with_reducible apply Box.set51 | with_reducible apply Box.set52 | with_reducible apply Box.set53 | with_reducible apply Box.set54 | with_reducible apply Box.set80 | with_reducible apply Box.set81 | with_reducible apply Box.set82 | with_reducible apply Box.set83 | with_reducible apply Box.set84 | with_reducible apply Box.set85 | with_reducible apply Box.set86 | with_reducible apply Box.set87 | with_reducible apply Box.drew | (with_reducible apply Box.newAt; (try simp only [World.size_alloc, World.size_setCell, World.size_drew]); done) | with_reducible apply Box.alloc | (with_reducible apply Box.other; case hne => ((try simp only [World.size_alloc, World.size_setCell, World.size_drew]); omega))))
    have Bv1_5' : Box w2 (v1_5) #[.int .i64 (expI x)] := Box.call hb (by repeat (first | with_reducible assumption | with_reducible apply Box.set10 | with_reducible apply Box.set20 | with_reducible apply Box.set21 | with_reducible apply Box.set40 | with_reducible apply Box.set41 | with_reducible apply Box.set42 | with_reducible apply Box.set43 | with_reducible apply Box.set50 | with_reducible apply Box.set51 | with_reducible apply Box.set52 | with_reducible apply Box.set53 | with_reducible apply Box.set54 | with_reducible apply Box.set80 | with_reducible apply Box.set81 | with_reducible apply Box.set82 | with_reducible apply Box.set83 | with_reducible apply Box.set84 | with_reducible apply Box.set85 | with_reducible apply Box.set86 | with_reducible apply Box.set87 | with_reducible apply Box.drew | (with_reducible apply Box.newAt; (try simp only [World.size_alloc, World.size_setCell, World.size_drew]); done) | with_reducible apply Box.alloc | (with_reducible apply Box.other; case hne => ((try simp only [World.size_alloc, World.size_setCell, World.size_drew]); omega))))
    have hk' : Kept w.heap.size w w2 := Kept.step (by repeat (first | with_reducible exact hk | with_reducible exact Kept.refl _ | with_reducible refine Kept.alloc ?_ _ | with_reducible refine Kept.drew ?_ | with_reducible refine Kept.setCell ?_ (by simp only [World.size_alloc, World.size_setCell, World.size_drew]; omega) _)) hb
    clear hk hb
    clear X1 X1l1 X1l2 X1l3 X1f X10 X11 X12 X13 X14
    clear X2 X2l1 X2l2 X2l3 X2f X20 X21 X22 X23 X24
    clear Bv1_5 Bv1_5l1 Bv1_5l2 Bv1_5l3 Bv1_5f Bv1_50
    have X2 := X2'
    clear X2'
    have Bv1_5 := Bv1_5'
    clear Bv1_5'
    have hk := hk'
    clear hk'
    have hz_w2 := hk.size
    have X2l := X2.lt
    have X2f := X2.free
    have X2l1 : w.heap.size + 1 < w2.heap.size + 1 := by omega
    have X2l2 : w.heap.size + 1 < w2.heap.size + 1 + 1 := by omega
    have X2l3 : w.heap.size + 1 < w2.heap.size + 1 + 1 + 1 := by omega
    have X20 := X2.cell 0 _ rfl
    have X21 := X2.cell 1 _ rfl
    have X22 := X2.cell 2 _ rfl
    have X23 := X2.cell 3 _ rfl
    have X24 := X2.cell 4 _ rfl
    have Bv1_5l := Bv1_5.lt
    have Bv1_5f := Bv1_5.free
    have Bv1_5l1 : v1_5 < w2.heap.size + 1 := by omega
    have Bv1_5l2 : v1_5 < w2.heap.size + 1 + 1 := by omega
    have Bv1_5l3 : v1_5 < w2.heap.size + 1 + 1 + 1 := by omega
    have Bv1_50 := Bv1_5.cell 0 _ rfl
    go_wp2_with fail
    (with_reducible refine (calls_to (V := .tuple #[wideV Q, .bool false]) (part_any hB (by repeat (first | with_reducible assumption | with_reducible apply Box.set10 | with_reducible apply Box.set20 | with_reducible apply Box.set21 | with_reducible apply Box.set40 | with_reducible apply Box.set41 | with_reducible apply Box.set42 | with_reducible apply Box.set43 | with_reducible apply Box.set50 | with_reducible apply Box.set51 | with_reducible apply Box.set52 | with_reducible apply Box.set53 | with_reducible apply Box.set54 | with_reducible apply Box.set80 | with_reducible apply Box.set81 | with_reducible apply Box.set82 | with_reducible apply Box.set83 | with_reducible apply Box.set84 | with_reducible apply Box.set85 | with_reducible apply Box.set86 | with_reducible apply Box.set87 | with_reducible apply Box.drew | (with_reducible apply Box.newAt; (try simp only [World.size_alloc, World.size_setCell, World.size_drew]); done) | with_reducible apply Box.alloc | (with_reducible apply Box.other; case hne => ((try simp only [World.size_alloc, World.size_setCell, World.size_drew]); omega))) : Box _ (v1_5) #[.int .i64 (expI x)]) (by omega) (by omega) (x := y)) (by rw [E2.out, HQ.out])).mono ?_)
    rintro e w3 ⟨rfl, hb⟩
    have Bv1_5' : Box w3 (v1_5) #[.int .i64 (expI x)] := Box.call hb (by repeat (first | with_reducible assumption | with_reducible apply Box.set10 | with_reducible apply Box.set20 | with_reducible apply Box.set21 | with_reducible apply Box.set40 | with_reducible apply Box.set41 | with_reducible apply Box.set42 | with_reducible apply Box.set43 | with_reducible apply Box.set50 | with_reducible apply Box.set51 | with_reducible apply Box.set52 | with_reducible apply Box.set53 | with_reducible apply Box.set54 | with_reducible apply Box.set80 | with_reducible apply Box.set81 | with_reducible apply Box.set82 | with_reducible apply Box.set83 | with_reducible apply Box.set84 | with_reducible apply Box.set85 | with_reducible apply Box.set86 | with_reducible apply Box.set87 | with_reducible apply Box.drew | (with_reducible apply Box.newAt; (try simp only [World.size_alloc, World.size_setCell, World.size_drew]); done) | with_reducible apply Box.alloc | (with_reducible apply Box.other; case hne => ((try simp only [World.size_alloc, World.size_setCell, World.size_drew]); omega))))
    have X3' : Box w3 (w2.heap.size) #[.int .u64 (limb 0 P), .int .u64 (limb 1 P), .int .u64 (limb 2 P), .int .u64 (limb 3 P)] := Box.call hb (by repeat (first | with_reducible assumption | with_reducible apply Box.set10 | with_reducible apply Box.set20 | with_reducible apply Box.set21 | with_reducible apply Box.set40 | with_reducible apply Box.set41 | with_reducible apply Box.set42 | with_reducible apply Box.set43 | with_reducible apply Box.set50 | with_reducible apply Box.set51 | with_reducible apply Box.set52 | with_reducible apply Box.set53 | with_reducible apply Box.set54 | with_reducible apply Box.set80 | with_reducible apply Box.set81 | with_reducible apply Box.set82 | with_reducible apply Box.set83 | with_reducible apply Box.set84 | with_reducible apply Box.set85 | with_reducible apply Box.set86 | with_reducible apply Box.set87 | with_reducible apply Box.drew | (with_reducible apply Box.newAt; (try simp only [World.size_alloc, World.size_setCell, World.size_drew]); done) | with_reducible apply Box.alloc | (with_reducible apply Box.other; case hne => ((try simp only [World.size_alloc, World.size_setCell, World.size_drew]); omega))))
    have hk' : Kept w.heap.size w w3 := Kept.step (by repeat (first | with_reducible exact hk | with_reducible exact Kept.refl _ | with_reducible refine Kept.alloc ?_ _ | with_reducible refine Kept.drew ?_ | with_reducible refine Kept.setCell ?_ (by simp only [World.size_alloc, World.size_setCell, World.size_drew]; omega) _)) hb
    clear hk hb
    clear X2 X2l1 X2l2 X2l3 X2f X20 X21 X22 X23 X24
    clear Bv1_5 Bv1_5l1 Bv1_5l2 Bv1_5l3 Bv1_5f Bv1_50
    have Bv1_5 := Bv1_5'
    clear Bv1_5'
    have X3 := X3'
    clear X3'
    have hk := hk'
    clear hk'
    have hz_w3 := hk.size
    have Bv1_5l := Bv1_5.lt
    have Bv1_5f := Bv1_5.free
    have Bv1_5l1 : v1_5 < w3.heap.size + 1 := by omega
    have Bv1_5l2 : v1_5 < w3.heap.size + 1 + 1 := by omega
    have Bv1_5l3 : v1_5 < w3.heap.size + 1 + 1 + 1 := by omega
    have Bv1_50 := Bv1_5.cell 0 _ rfl
    have X3l := X3.lt
    have X3f := X3.free
    have X3l1 : w2.heap.size < w3.heap.size + 1 := by omega
    have X3l2 : w2.heap.size < w3.heap.size + 1 + 1 := by omega
    have X3l3 : w2.heap.size < w3.heap.size + 1 + 1 + 1 := by omega
    have X30 := X3.cell 0 _ rfl
    have X31 := X3.cell 1 _ rfl
    have X32 := X3.cell 2 _ rfl
    have X33 := X3.cell 3 _ rfl
    go_wp2_with fail
    (with_reducible refine (calls_to (V := .int .i64 0) (CmpW_at (IsWide.of hP) (IsWide.of hQ) _) (by rw [HC.out])).mono ?_)
    rintro e w4 ⟨rfl, hb⟩
    have hk' : Kept w.heap.size w w4 := Kept.step (by repeat (first | with_reducible exact hk | with_reducible exact Kept.refl _ | with_reducible refine Kept.alloc ?_ _ | with_reducible refine Kept.drew ?_ | with_reducible refine Kept.setCell ?_ (by simp only [World.size_alloc, World.size_setCell, World.size_drew]; omega) _)) hb
    clear hk hb
    clear Bv1_5 Bv1_5l1 Bv1_5l2 Bv1_5l3 Bv1_5f Bv1_50
    clear X3 X3l1 X3l2 X3l3 X3f X30 X31 X32 X33
    have hk := hk'
    clear hk'
    have hz_w4 := hk.size
    go_wp2
    go_ret
    exact ⟨rfl, (by refine Kept.below ?_; repeat (first | with_reducible exact hk | with_reducible exact Kept.refl _ | with_reducible refine Kept.alloc ?_ _ | with_reducible refine Kept.drew ?_ | with_reducible refine Kept.setCell ?_ (by simp only [World.size_alloc, World.size_setCell, World.size_drew]; omega) _))⟩

set_option maxRecDepth 100000 in
set_option maxHeartbeats 8000000 in
theorem Cmp_ge_diff {x y : Int} {A B P Q : Nat} {c : Int} {p q : Bool} (hA : W256 A) (hB : W256 B) (hP : W256 P) (hQ : W256 Q) (hl : ¬ expI x < expI y) (e1 : rightN A (expI x - expI x) = P) (e2 : rightN B (expI x - expI y) = Q) (h2 : lostB A (expI x - expI x) = p) (h3 : lostB B (expI x - expI y) = q) (h1 : cmpN P Q = c) (h4 : ¬ c = 0) (w : World) :
    Calls Try.prog 51 #[termV x A, termV y B] w fun e w' => e = .returned (.int .i64 (c)) ∧ Below w.heap.size w w' := by
  have hk := Kept.refl w
  have hx := expI_range x
  have hy := expI_range y
  have E1 := Lib.hid e1; have E2 := Lib.hid e2; have HC := Lib.hid h1; have HP := Lib.hid h2; have HQ := Lib.hid h3
  have hc0 : ¬ c = 0 := h4
  clear e1 e2 h1 h2 h3 h4
  go_enter Try.func51, Try.ntmps51
  go_wp2
  refine wp_region_g 6 (fun W' => Kept w.heap.size w W' ∧ w.heap.size + 1 + 1 ≤ W'.heap.size ∧ Box W' (w.heap.size) #[.int .i64 (x), .int .u64 (limb 0 A), .int .u64 (limb 1 A), .int .u64 (limb 2 A), .int .u64 (limb 3 A)] ∧ Box W' (w.heap.size + 1) #[.int .i64 (y), .int .u64 (limb 0 B), .int .u64 (limb 1 B), .int .u64 (limb 2 B), .int .u64 (limb 3 B)]) (fun W' => Kept w.heap.size w W' ∧ w.heap.size + 1 + 1 ≤ W'.heap.size ∧ Box W' (w.heap.size) #[.int .i64 (x), .int .u64 (limb 0 A), .int .u64 (limb 1 A), .int .u64 (limb 2 A), .int .u64 (limb 3 A)] ∧ Box W' (w.heap.size + 1) #[.int .i64 (y), .int .u64 (limb 0 B), .int .u64 (limb 1 B), .int .u64 (limb 2 B), .int .u64 (limb 3 B)]) 1000 (w.heap.size + 1 + 1) [.known (termV x A), .known (.int .i64 (expI x)), .known (termV y B), .known (.int .i64 (expI y)), .known (.int .i64 (expI x)), .var #[.int .i64 0] 1000 [.int .i64 0]] (by kernel_rfl) (by kernel_rfl) (fun W W' h hb => ⟨h.1.step hb, Nat.le_trans (h.2.1) hb.size, Box.call hb (h.2.2.1), Box.call hb (h.2.2.2)⟩) (fun W W' h hb => ⟨h.1.step hb, Nat.le_trans (h.2.1) hb.size, Box.call hb (h.2.2.1), Box.call hb (h.2.2.2)⟩) (no_out (of_decide_eq_true (by kernel_rfl))) (.inl (by kernel_rfl)) (.inl (by kernel_rfl)) (fun _ h => h.2.1) (fun _ h => h.2.1) (⟨(by repeat (first | with_reducible exact hk | with_reducible exact Kept.refl _ | with_reducible refine Kept.alloc ?_ _ | with_reducible refine Kept.drew ?_ | with_reducible refine Kept.setCell ?_ (by simp only [World.size_alloc, World.size_setCell, World.size_drew]; omega) _)), (by (try simp only [World.size_alloc, World.size_setCell, World.size_drew]); omega), (by repeat (first | with_reducible assumption | with_reducible apply Box.set10 | with_reducible apply Box.set20 | with_reducible apply Box.set21 | with_reducible apply Box.set40 | with_reducible apply Box.set41 | with_reducible apply Box.set42 | with_reducible apply Box.set43 | with_reducible apply Box.set50 | with_reducible apply Box.set51 | with_reducible apply Box.set52 | with_reducible apply Box.set53 | with_reducible apply Box.set54 | with_reducible apply Box.set80 | with_reducible apply Box.set81 | with_reducible apply Box.set82 | with_reducible apply Box.set83 | with_reducible apply Box.set84 | with_reducible apply Box.set85 | with_reducible apply Box.set86 | with_reducible apply Box.set87 | with_reducible apply Box.drew | (with_reducible apply Box.newAt; (try simp only [World.size_alloc, World.size_setCell, World.size_drew]); done) | with_reducible apply Box.alloc | (with_reducible apply Box.other; case hne => ((try simp only [World.size_alloc, World.size_setCell, World.size_drew]); omega)))), (by repeat (first | with_reducible assumption | with_reducible apply Box.set10 | with_reducible apply Box.set20 | with_reducible apply Box.set21 | with_reducible apply Box.set40 | with_reducible apply Box.set41 | with_reducible apply Box.set42 | with_reducible apply Box.set43 | with_reducible apply Box.set50 | with_reducible apply Box.set51 | with_reducible apply Box.set52 | with_reducible apply Box.set53 | with_reducible apply Box.set54 | with_reducible apply Box.set80 | with_reducible apply Box.set81 | with_reducible apply Box.set82 | with_reducible apply Box.set83 | with_reducible apply Box.set84 | with_reducible apply Box.set85 | with_reducible apply Box.set86 | with_reducible apply Box.set87 | with_reducible apply Box.drew | (with_reducible apply Box.newAt; (try simp only [World.size_alloc, World.size_setCell, World.size_drew]); done) | with_reducible apply Box.alloc | (with_reducible apply Box.other; case hne => ((try simp only [World.size_alloc, World.size_setCell, World.size_drew]); omega))))⟩) ?_
  clear hk
  intro ρ
  simp only [List.take_succ_cons, List.take_zero, List.drop_succ_cons, List.drop_zero]
  refine ⟨?_, ?_⟩
  · as_aux_lemma =>
    intro y_ hS_ hO_ hD
    have Q := ((hS_ (by rfl)).2.2.1).cell
    have q0 := Q 0 _ rfl
    have q1 := Q 1 _ rfl
    have q2 := Q 2 _ rfl
    have q3 := Q 3 _ rfl
    have q4 := Q 4 _ rfl
    clear Q hS_ hO_ hD
    refine s_gen (V := termV x A) [.pointer (some ⟨w.heap.size, 0, none⟩)] (by kernel_rfl) (by kernel_rfl) (by kernel_rfl) ?_
    intro r_ hr_
    have o0_ : r_ (.tmp 2) = .pointer (some ⟨w.heap.size, 0, none⟩) := op_at hr_ 0 (by kernel_rfl) (by kernel_rfl)
    clear hr_
    go_simp; first | done | with_reducible rfl
  simp only [Act.put, planVG, List.setIfInBounds_toArray, List.set_cons_zero, List.set_cons_succ, List.getElem?_cons_zero, List.getElem?_cons_succ]
  refine ⟨?_, ?_⟩
  · as_aux_lemma =>
    intro y_ hS_ hO_ hD
    try clear hS
    clear hS_ hO_ hD
    refine s_gcall (V := .int .i64 (expI x)) [.func (.func 71) #[] #[], termV x A] ?_ ?_ (by kernel_rfl) (by kernel_rfl) (by kernel_rfl) ?_ ?_
    rotate_left 2
    · intro r_ hr_
      have o0_ : r_ (.func 71) = .func (.func 71) #[] #[] := op_at hr_ 0 (by kernel_rfl) (by kernel_rfl)
      have o1_ : r_ (.tmp 12) = termV x A := op_at hr_ 1 (by kernel_rfl) (by kernel_rfl)
      clear hr_
      go_simp; first | done | with_reducible rfl | (constructor <;> with_reducible rfl)
    · refine exp_any x A _
  simp only [Act.put, planVG, List.setIfInBounds_toArray, List.set_cons_zero, List.set_cons_succ, List.getElem?_cons_zero, List.getElem?_cons_succ]
  refine ⟨?_, ?_⟩
  · as_aux_lemma =>
    intro y_ hS_ hO_ hD
    have Q := ((hS_ (by rfl)).2.2.2).cell
    have q0 := Q 0 _ rfl
    have q1 := Q 1 _ rfl
    have q2 := Q 2 _ rfl
    have q3 := Q 3 _ rfl
    have q4 := Q 4 _ rfl
    clear Q hS_ hO_ hD
    refine s_gen (V := termV y B) [.pointer (some ⟨w.heap.size + 1, 0, none⟩)] (by kernel_rfl) (by kernel_rfl) (by kernel_rfl) ?_
    intro r_ hr_
    have o0_ : r_ (.tmp 3) = .pointer (some ⟨w.heap.size + 1, 0, none⟩) := op_at hr_ 0 (by kernel_rfl) (by kernel_rfl)
    clear hr_
    go_simp; first | done | with_reducible rfl
  simp only [Act.put, planVG, List.setIfInBounds_toArray, List.set_cons_zero, List.set_cons_succ, List.getElem?_cons_zero, List.getElem?_cons_succ]
  refine ⟨?_, ?_⟩
  · as_aux_lemma =>
    intro y_ hS_ hO_ hD
    try clear hS
    clear hS_ hO_ hD
    refine s_gcall (V := .int .i64 (expI y)) [.func (.func 71) #[] #[], termV y B] ?_ ?_ (by kernel_rfl) (by kernel_rfl) (by kernel_rfl) ?_ ?_
    rotate_left 2
    · intro r_ hr_
      have o0_ : r_ (.func 71) = .func (.func 71) #[] #[] := op_at hr_ 0 (by kernel_rfl) (by kernel_rfl)
      have o1_ : r_ (.tmp 14) = termV y B := op_at hr_ 1 (by kernel_rfl) (by kernel_rfl)
      clear hr_
      go_simp; first | done | with_reducible rfl | (constructor <;> with_reducible rfl)
    · refine exp_any y B _
  simp only [Act.put, planVG, List.setIfInBounds_toArray, List.set_cons_zero, List.set_cons_succ, List.getElem?_cons_zero, List.getElem?_cons_succ]
  refine ⟨?_, ?_⟩
  · as_aux_lemma =>
    intro y_ hS_ hO_ hD
    clear hS_ hO_ hD
    refine s_gen (V := .int .i64 (expI x)) [.int .i64 (expI x), .int .i64 (expI y)] (by kernel_rfl) (by kernel_rfl) (by kernel_rfl) ?_
    intro r_ hr_
    have o0_ : r_ (.tmp 13) = .int .i64 (expI x) := op_at hr_ 0 (by kernel_rfl) (by kernel_rfl)
    have o1_ : r_ (.tmp 15) = .int .i64 (expI y) := op_at hr_ 1 (by kernel_rfl) (by kernel_rfl)
    clear hr_
    go_simp; first | done | with_reducible rfl | omega
  simp only [Act.put, planVG, List.setIfInBounds_toArray, List.set_cons_zero, List.set_cons_succ, List.getElem?_cons_zero, List.getElem?_cons_succ]
  refine ⟨?_, ?_⟩
  · as_aux_lemma =>
    intro y_ hS_ hO_ hD
    clear hS_ hO_ hD
    refine s_alloc (by rfl) (by rfl) ?_
    simp only [allocTy]
    go_simp; first | done | with_reducible rfl | rfl
  simp only [Act.put, planVG, List.setIfInBounds_toArray, List.set_cons_zero, List.set_cons_succ, List.getElem?_cons_zero, List.getElem?_cons_succ]
  as_aux_lemma =>
    intro w1 hS hF hD_
    change wpList _ _ _ _ _ _
    replace hS := sg_no (by decide) hS
    obtain ⟨hk, hZ1, X1, X2⟩ := hS
    obtain ⟨v1_5, e_v1_5, hv1_5, Bv1_5⟩ : ∃ b, ρ 5 = .pointer (some ⟨b, 0, none⟩) ∧ w.heap.size + 1 + 1 ≤ b ∧ Box w1 b #[.int .i64 0] := by
      obtain ⟨b, h1, h2, h3⟩ := hF 5 (by decide)
      exact ⟨b, h1, h2, h3.lt, h3.cell, h3.free⟩
    clear hF hD_
    simp only [e_v1_5]
    clear e_v1_5
    clear ρ
    have hz_w1 := hk.size
    have X1l := X1.lt
    have X1f := X1.free
    have X1l1 : w.heap.size < w1.heap.size + 1 := by omega
    have X1l2 : w.heap.size < w1.heap.size + 1 + 1 := by omega
    have X1l3 : w.heap.size < w1.heap.size + 1 + 1 + 1 := by omega
    have X10 := X1.cell 0 _ rfl
    have X11 := X1.cell 1 _ rfl
    have X12 := X1.cell 2 _ rfl
    have X13 := X1.cell 3 _ rfl
    have X14 := X1.cell 4 _ rfl
    have X2l := X2.lt
    have X2f := X2.free
    have X2l1 : w.heap.size + 1 < w1.heap.size + 1 := by omega
    have X2l2 : w.heap.size + 1 < w1.heap.size + 1 + 1 := by omega
    have X2l3 : w.heap.size + 1 < w1.heap.size + 1 + 1 + 1 := by omega
    have X20 := X2.cell 0 _ rfl
    have X21 := X2.cell 1 _ rfl
    have X22 := X2.cell 2 _ rfl
    have X23 := X2.cell 3 _ rfl
    have X24 := X2.cell 4 _ rfl
    have Bv1_5l := Bv1_5.lt
    have Bv1_5f := Bv1_5.free
    have Bv1_5l1 : v1_5 < w1.heap.size + 1 := by omega
    have Bv1_5l2 : v1_5 < w1.heap.size + 1 + 1 := by omega
    have Bv1_5l3 : v1_5 < w1.heap.size + 1 + 1 + 1 := by omega
    have Bv1_50 := Bv1_5.cell 0 _ rfl
    go_wp2_with fail
    (with_reducible refine (calls_to (V := .tuple #[wideV P, .bool (p)]) (part_any hA (by repeat (first | with_reducible assumption | with_reducible apply Box.set10 | with_reducible apply Box.set20 | with_reducible apply Box.set21 | with_reducible apply Box.set40 | with_reducible apply Box.set41 | with_reducible apply Box.set42 | with_reducible apply Box.set43 | with_reducible apply Box.set50 | with_reducible apply Box.set51 | with_reducible apply Box.set52 | with_reducible apply Box.set53 | with_reducible apply Box.set54 | with_reducible apply Box.set80 | with_reducible apply Box.set81 | with_reducible apply Box.set82 | with_reducible apply Box.set83 | with_reducible apply Box.set84 | with_reducible apply Box.set85 | with_reducible apply Box.set86 | with_reducible apply Box.set87 | with_reducible apply Box.drew | (with_reducible apply Box.newAt; (try simp only [World.size_alloc, World.size_setCell, World.size_drew]); done) | with_reducible apply Box.alloc | (with_reducible apply Box.other; case hne => ((try simp only [World.size_alloc, World.size_setCell, World.size_drew]); omega))) : Box _ (v1_5) #[.int .i64 (expI x)]) (by omega) (by omega) (x := x)) (by rw [E1.out, HP.out])).mono ?_)
    rintro e w2 ⟨rfl, hb⟩
    have X2' : Box w2 (w.heap.size + 1) #[.int .i64 (y), .int .u64 (limb 0 B), .int .u64 (limb 1 B), .int .u64 (limb 2 B), .int .u64 (limb 3 B)] := Box.call hb (by repeat (first | with_reducible assumption | with_reducible apply Box.set10 | with_reducible apply Box.set20 | with_reducible apply Box.set21 | with_reducible apply Box.set40 | with_reducible apply Box.set41 | with_reducible apply Box.set42 | with_reducible apply Box.set43 | with_reducible apply Box.set50 | with_reducible apply Box.set51 | with_reducible apply Box.set52 | with_reducible apply Box.set53 | with_reducible apply Box.set54 | with_reducible apply Box.set80 | with_reducible apply Box.set81 | with_reducible apply Box.set82 | with_reducible apply Box.set83 | with_reducible apply Box.set84 | with_reducible apply Box.set85 | with_reducible apply Box.set86 | with_reducible apply Box.set87 | with_reducible apply Box.drew | (with_reducible apply Box.newAt; (try simp only [World.size_alloc, World.size_setCell, World.size_drew]); done) | with_reducible apply Box.alloc | (with_reducible apply Box.other; case hne => ((try simp only [World.size_alloc, World.size_setCell, World.size_drew]); omega))))
    have Bv1_5' : Box w2 (v1_5) #[.int .i64 (expI x)] := Box.call hb (by repeat (first | with_reducible assumption | with_reducible apply Box.set10 | with_reducible apply Box.set20 | with_reducible apply Box.set21 | with_reducible apply Box.set40 | with_reducible apply Box.set41 | with_reducible apply Box.set42 | with_reducible apply Box.set43 | with_reducible apply Box.set50 | with_reducible apply Box.set51 | with_reducible apply Box.set52 | with_reducible apply Box.set53 | with_reducible apply Box.set54 | with_reducible apply Box.set80 | with_reducible apply Box.set81 | with_reducible apply Box.set82 | with_reducible apply Box.set83 | with_reducible apply Box.set84 | with_reducible apply Box.set85 | with_reducible apply Box.set86 | with_reducible apply Box.set87 | with_reducible apply Box.drew | (with_reducible apply Box.newAt; (try simp only [World.size_alloc, World.size_setCell, World.size_drew]); done) | with_reducible apply Box.alloc | (with_reducible apply Box.other; case hne => ((try simp only [World.size_alloc, World.size_setCell, World.size_drew]); omega))))
    have hk' : Kept w.heap.size w w2 := Kept.step (by repeat (first | with_reducible exact hk | with_reducible exact Kept.refl _ | with_reducible refine Kept.alloc ?_ _ | with_reducible refine Kept.drew ?_ | with_reducible refine Kept.setCell ?_ (by simp only [World.size_alloc, World.size_setCell, World.size_drew]; omega) _)) hb
    clear hk hb
    clear X1 X1l1 X1l2 X1l3 X1f X10 X11 X12 X13 X14
    clear X2 X2l1 X2l2 X2l3 X2f X20 X21 X22 X23 X24
    clear Bv1_5 Bv1_5l1 Bv1_5l2 Bv1_5l3 Bv1_5f Bv1_50
    have X2 := X2'
    clear X2'
    have Bv1_5 := Bv1_5'
    clear Bv1_5'
    have hk := hk'
    clear hk'
    have hz_w2 := hk.size
    have X2l := X2.lt
    have X2f := X2.free
    have X2l1 : w.heap.size + 1 < w2.heap.size + 1 := by omega
    have X2l2 : w.heap.size + 1 < w2.heap.size + 1 + 1 := by omega
    have X2l3 : w.heap.size + 1 < w2.heap.size + 1 + 1 + 1 := by omega
    have X20 := X2.cell 0 _ rfl
    have X21 := X2.cell 1 _ rfl
    have X22 := X2.cell 2 _ rfl
    have X23 := X2.cell 3 _ rfl
    have X24 := X2.cell 4 _ rfl
    have Bv1_5l := Bv1_5.lt
    have Bv1_5f := Bv1_5.free
    have Bv1_5l1 : v1_5 < w2.heap.size + 1 := by omega
    have Bv1_5l2 : v1_5 < w2.heap.size + 1 + 1 := by omega
    have Bv1_5l3 : v1_5 < w2.heap.size + 1 + 1 + 1 := by omega
    have Bv1_50 := Bv1_5.cell 0 _ rfl
    go_wp2_with fail
    (with_reducible refine (calls_to (V := .tuple #[wideV Q, .bool (q)]) (part_any hB (by repeat (first | with_reducible assumption | with_reducible apply Box.set10 | with_reducible apply Box.set20 | with_reducible apply Box.set21 | with_reducible apply Box.set40 | with_reducible apply Box.set41 | with_reducible apply Box.set42 | with_reducible apply Box.set43 | with_reducible apply Box.set50 | with_reducible apply Box.set51 | with_reducible apply Box.set52 | with_reducible apply Box.set53 | with_reducible apply Box.set54 | with_reducible apply Box.set80 | with_reducible apply Box.set81 | with_reducible apply Box.set82 | with_reducible apply Box.set83 | with_reducible apply Box.set84 | with_reducible apply Box.set85 | with_reducible apply Box.set86 | with_reducible apply Box.set87 | with_reducible apply Box.drew | (with_reducible apply Box.newAt; (try simp only [World.size_alloc, World.size_setCell, World.size_drew]); done) | with_reducible apply Box.alloc | (with_reducible apply Box.other; case hne => ((try simp only [World.size_alloc, World.size_setCell, World.size_drew]); omega))) : Box _ (v1_5) #[.int .i64 (expI x)]) (by omega) (by omega) (x := y)) (by rw [E2.out, HQ.out])).mono ?_)
    rintro e w3 ⟨rfl, hb⟩
    have Bv1_5' : Box w3 (v1_5) #[.int .i64 (expI x)] := Box.call hb (by repeat (first | with_reducible assumption | with_reducible apply Box.set10 | with_reducible apply Box.set20 | with_reducible apply Box.set21 | with_reducible apply Box.set40 | with_reducible apply Box.set41 | with_reducible apply Box.set42 | with_reducible apply Box.set43 | with_reducible apply Box.set50 | with_reducible apply Box.set51 | with_reducible apply Box.set52 | with_reducible apply Box.set53 | with_reducible apply Box.set54 | with_reducible apply Box.set80 | with_reducible apply Box.set81 | with_reducible apply Box.set82 | with_reducible apply Box.set83 | with_reducible apply Box.set84 | with_reducible apply Box.set85 | with_reducible apply Box.set86 | with_reducible apply Box.set87 | with_reducible apply Box.drew | (with_reducible apply Box.newAt; (try simp only [World.size_alloc, World.size_setCell, World.size_drew]); done) | with_reducible apply Box.alloc | (with_reducible apply Box.other; case hne => ((try simp only [World.size_alloc, World.size_setCell, World.size_drew]); omega))))
    have X3' : Box w3 (w2.heap.size) #[.int .u64 (limb 0 P), .int .u64 (limb 1 P), .int .u64 (limb 2 P), .int .u64 (limb 3 P)] := Box.call hb (by repeat (first | with_reducible assumption | with_reducible apply Box.set10 | with_reducible apply Box.set20 | with_reducible apply Box.set21 | with_reducible apply Box.set40 | with_reducible apply Box.set41 | with_reducible apply Box.set42 | with_reducible apply Box.set43 | with_reducible apply Box.set50 | with_reducible apply Box.set51 | with_reducible apply Box.set52 | with_reducible apply Box.set53 | with_reducible apply Box.set54 | with_reducible apply Box.set80 | with_reducible apply Box.set81 | with_reducible apply Box.set82 | with_reducible apply Box.set83 | with_reducible apply Box.set84 | with_reducible apply Box.set85 | with_reducible apply Box.set86 | with_reducible apply Box.set87 | with_reducible apply Box.drew | (with_reducible apply Box.newAt; (try simp only [World.size_alloc, World.size_setCell, World.size_drew]); done) | with_reducible apply Box.alloc | (with_reducible apply Box.other; case hne => ((try simp only [World.size_alloc, World.size_setCell, World.size_drew]); omega))))
    have hk' : Kept w.heap.size w w3 := Kept.step (by repeat (first | with_reducible exact hk | with_reducible exact Kept.refl _ | with_reducible refine Kept.alloc ?_ _ | with_reducible refine Kept.drew ?_ | with_reducible refine Kept.setCell ?_ (by simp only [World.size_alloc, World.size_setCell, World.size_drew]; omega) _)) hb
    clear hk hb
    clear X2 X2l1 X2l2 X2l3 X2f X20 X21 X22 X23 X24
    clear Bv1_5 Bv1_5l1 Bv1_5l2 Bv1_5l3 Bv1_5f Bv1_50
    have Bv1_5 := Bv1_5'
    clear Bv1_5'
    have X3 := X3'
    clear X3'
    have hk := hk'
    clear hk'
    have hz_w3 := hk.size
    have Bv1_5l := Bv1_5.lt
    have Bv1_5f := Bv1_5.free
    have Bv1_5l1 : v1_5 < w3.heap.size + 1 := by omega
    have Bv1_5l2 : v1_5 < w3.heap.size + 1 + 1 := by omega
    have Bv1_5l3 : v1_5 < w3.heap.size + 1 + 1 + 1 := by omega
    have Bv1_50 := Bv1_5.cell 0 _ rfl
    have X3l := X3.lt
    have X3f := X3.free
    have X3l1 : w2.heap.size < w3.heap.size + 1 := by omega
    have X3l2 : w2.heap.size < w3.heap.size + 1 + 1 := by omega
    have X3l3 : w2.heap.size < w3.heap.size + 1 + 1 + 1 := by omega
    have X30 := X3.cell 0 _ rfl
    have X31 := X3.cell 1 _ rfl
    have X32 := X3.cell 2 _ rfl
    have X33 := X3.cell 3 _ rfl
    go_wp2_with fail
    (with_reducible refine (calls_to (V := .int .i64 (c)) (CmpW_at (IsWide.of hP) (IsWide.of hQ) _) (by rw [HC.out])).mono ?_)
    rintro e w4 ⟨rfl, hb⟩
    have hk' : Kept w.heap.size w w4 := Kept.step (by repeat (first | with_reducible exact hk | with_reducible exact Kept.refl _ | with_reducible refine Kept.alloc ?_ _ | with_reducible refine Kept.drew ?_ | with_reducible refine Kept.setCell ?_ (by simp only [World.size_alloc, World.size_setCell, World.size_drew]; omega) _)) hb
    clear hk hb
    clear Bv1_5 Bv1_5l1 Bv1_5l2 Bv1_5l3 Bv1_5f Bv1_50
    clear X3 X3l1 X3l2 X3l3 X3f X30 X31 X32 X33
    have hk := hk'
    clear hk'
    have hz_w4 := hk.size
    go_wp2
    go_ret
    exact ⟨rfl, (by refine Kept.below ?_; repeat (first | with_reducible exact hk | with_reducible exact Kept.refl _ | with_reducible refine Kept.alloc ?_ _ | with_reducible refine Kept.drew ?_ | with_reducible refine Kept.setCell ?_ (by simp only [World.size_alloc, World.size_setCell, World.size_drew]; omega) _))⟩

theorem magCmp_any {x y : Int} {A B : Nat} (hA : W256 A) (hB : W256 B) (w : World) :
    Calls Try.prog 51 #[termV x A, termV y B] w fun e w' => e = .returned (.int .i64 (cmpT (expI x) A (expI y) B)) ∧ Below w.heap.size w w' := by
  by_cases hl : expI x < expI y
  · have em : maxI (expI x) (expI y) = expI y := by unfold maxI; rw [if_pos hl]
    unfold cmpT; rw [em]
    have hP := right_w hA (expI y - expI x)
    have hQ := right_w hB (expI y - expI y)
    obtain ⟨P, eP⟩ : ∃ P, rightN A (expI y - expI x) = P := ⟨_, rfl⟩
    obtain ⟨Q, eQ⟩ : ∃ Q, rightN B (expI y - expI y) = Q := ⟨_, rfl⟩
    rw [eP] at hP ⊢
    rw [eQ] at hQ ⊢
    by_cases hc : cmpN P Q = 0
    · cases hp : lostB A (expI y - expI x) with
      | true => rw [if_pos ⟨hc, rfl⟩]; exact Cmp_lt_more hA hB hP hQ hl eP eQ hp rfl hc w
      | false =>
        rw [if_neg (fun h => by cases h.2)]
        cases hq : lostB B (expI y - expI y) with
        | true => rw [if_pos ⟨hc, rfl⟩]; exact Cmp_lt_also hA hB hP hQ hl eP eQ hp hq hc w
        | false => rw [if_neg (fun h => by cases h.2), hc]; exact Cmp_lt_same hA hB hP hQ hl eP eQ hp hq hc w
    · rw [if_neg (fun h => hc h.1), if_neg (fun h => hc h.1)]
      exact Cmp_lt_diff hA hB hP hQ hl eP eQ rfl rfl rfl hc w
  · have em : maxI (expI x) (expI y) = expI x := by unfold maxI; rw [if_neg hl]
    unfold cmpT; rw [em]
    have hP := right_w hA (expI x - expI x)
    have hQ := right_w hB (expI x - expI y)
    obtain ⟨P, eP⟩ : ∃ P, rightN A (expI x - expI x) = P := ⟨_, rfl⟩
    obtain ⟨Q, eQ⟩ : ∃ Q, rightN B (expI x - expI y) = Q := ⟨_, rfl⟩
    rw [eP] at hP ⊢
    rw [eQ] at hQ ⊢
    by_cases hc : cmpN P Q = 0
    · cases hp : lostB A (expI x - expI x) with
      | true => rw [if_pos ⟨hc, rfl⟩]; exact Cmp_ge_more hA hB hP hQ hl eP eQ hp rfl hc w
      | false =>
        rw [if_neg (fun h => by cases h.2)]
        cases hq : lostB B (expI x - expI y) with
        | true => rw [if_pos ⟨hc, rfl⟩]; exact Cmp_ge_also hA hB hP hQ hl eP eQ hp hq hc w
        | false => rw [if_neg (fun h => by cases h.2), hc]; exact Cmp_ge_same hA hB hP hQ hl eP eQ hp hq hc w
    · rw [if_neg (fun h => hc h.1), if_neg (fun h => hc h.1)]
      exact Cmp_ge_diff hA hB hP hQ hl eP eQ rfl rfl rfl hc w
end Go.Proofs.Ythpmbfdbknikcaa
