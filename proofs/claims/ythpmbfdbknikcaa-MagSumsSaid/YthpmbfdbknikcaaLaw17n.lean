/- The walk of MagSums. -/
import Derived.Test.YthpmbfdbknikcaaRef17c
import Derived.Test.YthpmbfdbknikcaaLaw17
set_option linter.unusedVariables false
set_option linter.unusedSimpArgs false
namespace Go.Proofs.Ythpmbfdbknikcaa
open Go.RowKit

set_option maxRecDepth 100000 in
set_option maxHeartbeats 8000000 in
theorem MagSums_1 {x y l m c ex cl : Int} {ng : Bool} {A B S T N J : Nat} (hJ : W256 J) (hA : W256 A) (hB : W256 B) (hSs : W256 S) (hTt : W256 T) (hN : W128 N) (h1 : ∀ w, Calls Try.prog 52 #[.int .i64 x, wideV A, .int .i64 y, wideV B] w fun e w' => e = .returned (.tuple #[.int .i64 l, wideV S]) ∧ Below w.heap.size w w') (h2 : ∀ w, Calls Try.prog 53 #[.int .i64 x, wideV A, .int .i64 y, wideV B] w fun e w' => e = .returned (.tuple #[.int .i64 m, wideV T, .bool true]) ∧ Below w.heap.size w w') (h3 : ∀ w, Calls Try.prog 47 #[termV x A, termV y B] w fun e w' => e = .returned (termV l S) ∧ Below w.heap.size w w') (h4 : ∀ w, Calls Try.prog 49 #[termV x A, termV y B] w fun e w' => e = .returned (.tuple #[termV m T, .bool true]) ∧ Below w.heap.size w w') (h5 : ∀ w, Calls Try.prog 54 #[.int .i64 x, wideV A, .int .i64 y, wideV B] w fun e w' => e = .returned (.int .i64 c) ∧ Below w.heap.size w w') (h6 : ∀ w, Calls Try.prog 51 #[termV x A, termV y B] w fun e w' => e = .returned (.int .i64 c) ∧ Below w.heap.size w w') (h7 : ∀ w, Calls Try.prog 25 #[.agg #[.int .u64 (limb 1 N), .int .u64 (limb 0 N)], .agg #[.int .u64 0, .int .u64 0]] w fun e w' => e = .returned (wideV J) ∧ Below w.heap.size w w') (h8 : ∀ w, Calls Try.prog 55 #[.agg #[.bool ng, .int .u8 cl, .int .i64 ex, .int .u64 (limb 1 N), .int .u64 (limb 0 N)]] w fun e w' => e = .returned (termV ex J) ∧ Below w.heap.size w w') (w : World) :
    Calls Try.prog 11 #[termV x A, termV y B, .agg #[.bool ng, .int .u8 cl, .int .i64 ex, .int .u64 (limb 1 N), .int .u64 (limb 0 N)]] w fun e w' => e = .returned (.bool true) ∧ Below w.heap.size w w' := by
  have hk := Kept.refl w
  have H1 := Lib.hid h1
  have H2 := Lib.hid h2
  have H3 := Lib.hid h3
  have H4 := Lib.hid h4
  have H5 := Lib.hid h5
  have H6 := Lib.hid h6
  have H7 := Lib.hid h7
  have H8 := Lib.hid h8
  clear h1 h2 h3 h4 h5 h6 h7 h8
  go_enter Try.func11, Try.ntmps11
  go_upto_region 1 with fail
  refine wp_region_p 14 (fun W' => Kept w.heap.size w W' ∧ w.heap.size + 1 + 1 + 1 ≤ W'.heap.size ∧ Box W' (w.heap.size) #[.int .i64 (x), .int .u64 (limb 0 A), .int .u64 (limb 1 A), .int .u64 (limb 2 A), .int .u64 (limb 3 A)] ∧ Box W' (w.heap.size + 1) #[.int .i64 (y), .int .u64 (limb 0 B), .int .u64 (limb 1 B), .int .u64 (limb 2 B), .int .u64 (limb 3 B)] ∧ Box W' (w.heap.size + 1 + 1) #[.bool (ng), .int .u8 (cl), .int .i64 (ex), .int .u64 (limb 1 N), .int .u64 (limb 0 N)]) (fun W' => Kept w.heap.size w W' ∧ w.heap.size + 1 + 1 + 1 ≤ W'.heap.size ∧ Box W' (w.heap.size) #[.int .i64 (x), .int .u64 (limb 0 A), .int .u64 (limb 1 A), .int .u64 (limb 2 A), .int .u64 (limb 3 A)] ∧ Box W' (w.heap.size + 1) #[.int .i64 (y), .int .u64 (limb 0 B), .int .u64 (limb 1 B), .int .u64 (limb 2 B), .int .u64 (limb 3 B)] ∧ Box W' (w.heap.size + 1 + 1) #[.bool (ng), .int .u8 (cl), .int .i64 (ex), .int .u64 (limb 1 N), .int .u64 (limb 0 N)]) 1000 (w.heap.size + 1 + 1 + 1) [.known (.pointer (some ⟨w.heap.size, 0, none⟩)), .known (.int .i64 (x)), .known (.pointer (some ⟨w.heap.size, 1, none⟩)), .known (wideV A), .known (.pointer (some ⟨w.heap.size + 1, 0, none⟩)), .known (.int .i64 (y)), .known (.pointer (some ⟨w.heap.size + 1, 1, none⟩)), .known (wideV B), .known (.tuple #[.int .i64 (l), wideV S]), .known (.tuple #[.int .i64 (l), wideV S]), .known (.int .i64 (l)), .known (wideV S), .var #[.int .u64 0, .int .u64 0, .int .u64 0, .int .u64 0] 1000 [.int .u64 0, .int .u64 0, .int .u64 0, .int .u64 0], .known (.int .i64 (l))] (by kernel_rfl) (by kernel_rfl) (fun W W' h hb => ⟨h.1.step hb, Nat.le_trans (h.2.1) hb.size, Box.call hb (h.2.2.1), Box.call hb (h.2.2.2.1), Box.call hb (h.2.2.2.2)⟩) (fun W W' h hb => ⟨h.1.step hb, Nat.le_trans (h.2.1) hb.size, Box.call hb (h.2.2.1), Box.call hb (h.2.2.2.1), Box.call hb (h.2.2.2.2)⟩) (no_out (of_decide_eq_true (by kernel_rfl))) (.inl (by kernel_rfl)) (.inl (by kernel_rfl)) (fun _ h => h.2.1) (fun _ h => h.2.1) (⟨(by repeat (first | with_reducible exact hk | with_reducible exact Kept.refl _ | with_reducible refine Kept.alloc ?_ _ | with_reducible refine Kept.drew ?_ | with_reducible refine Kept.setCell ?_ (by simp only [World.size_alloc, World.size_setCell, World.size_drew]; omega) _)), (by (try simp only [World.size_alloc, World.size_setCell, World.size_drew]); omega), (by repeat (first | with_reducible assumption | with_reducible apply Box.set10 | with_reducible apply Box.set20 | with_reducible apply Box.set21 | with_reducible apply Box.set40 | with_reducible apply Box.set41 | with_reducible apply Box.set42 | with_reducible apply Box.set43 | with_reducible apply Box.set50 | with_reducible apply Box.set51 | with_reducible apply Box.set52 | with_reducible apply Box.set53 | with_reducible apply Box.set54 | with_reducible apply Box.set80 | with_reducible apply Box.set81 | with_reducible apply Box.set82 | with_reducible apply Box.set83 | with_reducible apply Box.set84 | with_reducible apply Box.set85 | with_reducible apply Box.set86 | with_reducible apply Box.set87 | with_reducible apply Box.drew | (with_reducible apply Box.newAt; (try simp only [World.size_alloc, World.size_setCell, World.size_drew]); done) | with_reducible apply Box.alloc | (with_reducible apply Box.other; case hne => ((try simp only [World.size_alloc, World.size_setCell, World.size_drew]); omega)))), (by repeat (first | with_reducible assumption | with_reducible apply Box.set10 | with_reducible apply Box.set20 | with_reducible apply Box.set21 | with_reducible apply Box.set40 | with_reducible apply Box.set41 | with_reducible apply Box.set42 | with_reducible apply Box.set43 | with_reducible apply Box.set50 | with_reducible apply Box.set51 | with_reducible apply Box.set52 | with_reducible apply Box.set53 | with_reducible apply Box.set54 | with_reducible apply Box.set80 | with_reducible apply Box.set81 | with_reducible apply Box.set82 | with_reducible apply Box.set83 | with_reducible apply Box.set84 | with_reducible apply Box.set85 | with_reducible apply Box.set86 | with_reducible apply Box.set87 | with_reducible apply Box.drew | (with_reducible apply Box.newAt; (try simp only [World.size_alloc, World.size_setCell, World.size_drew]); done) | with_reducible apply Box.alloc | (with_reducible apply Box.other; case hne => ((try simp only [World.size_alloc, World.size_setCell, World.size_drew]); omega)))), (by repeat (first | with_reducible assumption | with_reducible apply Box.set10 | with_reducible apply Box.set20 | with_reducible apply Box.set21 | with_reducible apply Box.set40 | with_reducible apply Box.set41 | with_reducible apply Box.set42 | with_reducible apply Box.set43 | with_reducible apply Box.set50 | with_reducible apply Box.set51 | with_reducible apply Box.set52 | with_reducible apply Box.set53 | with_reducible apply Box.set54 | with_reducible apply Box.set80 | with_reducible apply Box.set81 | with_reducible apply Box.set82 | with_reducible apply Box.set83 | with_reducible apply Box.set84 | with_reducible apply Box.set85 | with_reducible apply Box.set86 | with_reducible apply Box.set87 | with_reducible apply Box.drew | (with_reducible apply Box.newAt; (try simp only [World.size_alloc, World.size_setCell, World.size_drew]); done) | with_reducible apply Box.alloc | (with_reducible apply Box.other; case hne => ((try simp only [World.size_alloc, World.size_setCell, World.size_drew]); omega))))⟩) ?_
  clear hk
  intro ρ
  simp only [List.take_succ_cons, List.take_zero, List.drop_succ_cons, List.drop_zero]
  refine ⟨?_, ?_⟩
  · as_aux_lemma =>
    intro y_ hS_ hO_ hD
    clear hS_ hO_ hD
    refine s_gen (V := .pointer (some ⟨w.heap.size, 0, none⟩)) [.pointer (some ⟨w.heap.size, 0, none⟩)] (by kernel_rfl) (by kernel_rfl) (by kernel_rfl) ?_
    intro r_ hr_
    have o0_ : r_ (.tmp 3) = .pointer (some ⟨w.heap.size, 0, none⟩) := op_at hr_ 0 (by kernel_rfl) (by kernel_rfl)
    clear hr_
    go_simp; first | done | with_reducible rfl | omega
  simp only [Act.put, planVG, List.setIfInBounds_toArray, List.set_cons_zero, List.set_cons_succ, List.getElem?_cons_zero, List.getElem?_cons_succ]
  refine ⟨?_, ?_⟩
  · as_aux_lemma =>
    intro y_ hS_ hO_ hD
    have Q := ((hS_ (by rfl)).2.2.1).cell
    have q0 := Q 0 _ rfl
    have q1 := Q 1 _ rfl
    have q2 := Q 2 _ rfl
    have q3 := Q 3 _ rfl
    have q4 := Q 4 _ rfl
    clear Q hS_ hO_ hD
    refine s_gen (V := .int .i64 (x)) [.pointer (some ⟨w.heap.size, 0, none⟩)] (by kernel_rfl) (by kernel_rfl) (by kernel_rfl) ?_
    intro r_ hr_
    have o0_ : r_ (.tmp 15) = .pointer (some ⟨w.heap.size, 0, none⟩) := op_at hr_ 0 (by kernel_rfl) (by kernel_rfl)
    clear hr_
    go_simp; first | done | with_reducible rfl
  simp only [Act.put, planVG, List.setIfInBounds_toArray, List.set_cons_zero, List.set_cons_succ, List.getElem?_cons_zero, List.getElem?_cons_succ]
  refine ⟨?_, ?_⟩
  · as_aux_lemma =>
    intro y_ hS_ hO_ hD
    clear hS_ hO_ hD
    refine s_gen (V := .pointer (some ⟨w.heap.size, 1, none⟩)) [.pointer (some ⟨w.heap.size, 0, none⟩)] (by kernel_rfl) (by kernel_rfl) (by kernel_rfl) ?_
    intro r_ hr_
    have o0_ : r_ (.tmp 3) = .pointer (some ⟨w.heap.size, 0, none⟩) := op_at hr_ 0 (by kernel_rfl) (by kernel_rfl)
    clear hr_
    go_simp; first | done | with_reducible rfl | omega
  simp only [Act.put, planVG, List.setIfInBounds_toArray, List.set_cons_zero, List.set_cons_succ, List.getElem?_cons_zero, List.getElem?_cons_succ]
  refine ⟨?_, ?_⟩
  · as_aux_lemma =>
    intro y_ hS_ hO_ hD
    have Q := ((hS_ (by rfl)).2.2.1).cell
    have q0 := Q 0 _ rfl
    have q1 := Q 1 _ rfl
    have q2 := Q 2 _ rfl
    have q3 := Q 3 _ rfl
    have q4 := Q 4 _ rfl
    clear Q hS_ hO_ hD
    refine s_gen (V := wideV A) [.pointer (some ⟨w.heap.size, 1, none⟩)] (by kernel_rfl) (by kernel_rfl) (by kernel_rfl) ?_
    intro r_ hr_
    have o0_ : r_ (.tmp 17) = .pointer (some ⟨w.heap.size, 1, none⟩) := op_at hr_ 0 (by kernel_rfl) (by kernel_rfl)
    clear hr_
    go_simp; first | done | with_reducible rfl
  simp only [Act.put, planVG, List.setIfInBounds_toArray, List.set_cons_zero, List.set_cons_succ, List.getElem?_cons_zero, List.getElem?_cons_succ]
  refine ⟨?_, ?_⟩
  · as_aux_lemma =>
    intro y_ hS_ hO_ hD
    clear hS_ hO_ hD
    refine s_gen (V := .pointer (some ⟨w.heap.size + 1, 0, none⟩)) [.pointer (some ⟨w.heap.size + 1, 0, none⟩)] (by kernel_rfl) (by kernel_rfl) (by kernel_rfl) ?_
    intro r_ hr_
    have o0_ : r_ (.tmp 4) = .pointer (some ⟨w.heap.size + 1, 0, none⟩) := op_at hr_ 0 (by kernel_rfl) (by kernel_rfl)
    clear hr_
    go_simp; first | done | with_reducible rfl | omega
  simp only [Act.put, planVG, List.setIfInBounds_toArray, List.set_cons_zero, List.set_cons_succ, List.getElem?_cons_zero, List.getElem?_cons_succ]
  refine ⟨?_, ?_⟩
  · as_aux_lemma =>
    intro y_ hS_ hO_ hD
    have Q := ((hS_ (by rfl)).2.2.2.1).cell
    have q0 := Q 0 _ rfl
    have q1 := Q 1 _ rfl
    have q2 := Q 2 _ rfl
    have q3 := Q 3 _ rfl
    have q4 := Q 4 _ rfl
    clear Q hS_ hO_ hD
    refine s_gen (V := .int .i64 (y)) [.pointer (some ⟨w.heap.size + 1, 0, none⟩)] (by kernel_rfl) (by kernel_rfl) (by kernel_rfl) ?_
    intro r_ hr_
    have o0_ : r_ (.tmp 19) = .pointer (some ⟨w.heap.size + 1, 0, none⟩) := op_at hr_ 0 (by kernel_rfl) (by kernel_rfl)
    clear hr_
    go_simp; first | done | with_reducible rfl
  simp only [Act.put, planVG, List.setIfInBounds_toArray, List.set_cons_zero, List.set_cons_succ, List.getElem?_cons_zero, List.getElem?_cons_succ]
  refine ⟨?_, ?_⟩
  · as_aux_lemma =>
    intro y_ hS_ hO_ hD
    clear hS_ hO_ hD
    refine s_gen (V := .pointer (some ⟨w.heap.size + 1, 1, none⟩)) [.pointer (some ⟨w.heap.size + 1, 0, none⟩)] (by kernel_rfl) (by kernel_rfl) (by kernel_rfl) ?_
    intro r_ hr_
    have o0_ : r_ (.tmp 4) = .pointer (some ⟨w.heap.size + 1, 0, none⟩) := op_at hr_ 0 (by kernel_rfl) (by kernel_rfl)
    clear hr_
    go_simp; first | done | with_reducible rfl | omega
  simp only [Act.put, planVG, List.setIfInBounds_toArray, List.set_cons_zero, List.set_cons_succ, List.getElem?_cons_zero, List.getElem?_cons_succ]
  refine ⟨?_, ?_⟩
  · as_aux_lemma =>
    intro y_ hS_ hO_ hD
    have Q := ((hS_ (by rfl)).2.2.2.1).cell
    have q0 := Q 0 _ rfl
    have q1 := Q 1 _ rfl
    have q2 := Q 2 _ rfl
    have q3 := Q 3 _ rfl
    have q4 := Q 4 _ rfl
    clear Q hS_ hO_ hD
    refine s_gen (V := wideV B) [.pointer (some ⟨w.heap.size + 1, 1, none⟩)] (by kernel_rfl) (by kernel_rfl) (by kernel_rfl) ?_
    intro r_ hr_
    have o0_ : r_ (.tmp 21) = .pointer (some ⟨w.heap.size + 1, 1, none⟩) := op_at hr_ 0 (by kernel_rfl) (by kernel_rfl)
    clear hr_
    go_simp; first | done | with_reducible rfl
  simp only [Act.put, planVG, List.setIfInBounds_toArray, List.set_cons_zero, List.set_cons_succ, List.getElem?_cons_zero, List.getElem?_cons_succ]
  refine ⟨?_, ?_⟩
  · as_aux_lemma =>
    intro y_ hS_ hO_ hD
    try clear hS
    clear hS_ hO_ hD
    refine s_gcall (V := .tuple #[.int .i64 (l), wideV S]) [.func (.func 52) #[] #[], .int .i64 (x), wideV A, .int .i64 (y), wideV B] ?_ ?_ (by kernel_rfl) (by kernel_rfl) (by kernel_rfl) ?_ ?_
    rotate_left 2
    · intro r_ hr_
      have o0_ : r_ (.func 52) = .func (.func 52) #[] #[] := op_at hr_ 0 (by kernel_rfl) (by kernel_rfl)
      have o1_ : r_ (.tmp 16) = .int .i64 (x) := op_at hr_ 1 (by kernel_rfl) (by kernel_rfl)
      have o2_ : r_ (.tmp 18) = wideV A := op_at hr_ 2 (by kernel_rfl) (by kernel_rfl)
      have o3_ : r_ (.tmp 20) = .int .i64 (y) := op_at hr_ 3 (by kernel_rfl) (by kernel_rfl)
      have o4_ : r_ (.tmp 22) = wideV B := op_at hr_ 4 (by kernel_rfl) (by kernel_rfl)
      clear hr_
      go_simp; first | done | with_reducible rfl | (constructor <;> with_reducible rfl)
    · refine H1.out _
  simp only [Act.put, planVG, List.setIfInBounds_toArray, List.set_cons_zero, List.set_cons_succ, List.getElem?_cons_zero, List.getElem?_cons_succ]
  refine ⟨?_, ?_⟩
  · as_aux_lemma =>
    intro y_ hS_ hO_ hD
    clear hS_ hO_ hD
    refine s_gen (V := .tuple #[.int .i64 (l), wideV S]) [.tuple #[.int .i64 (l), wideV S]] (by kernel_rfl) (by kernel_rfl) (by kernel_rfl) ?_
    intro r_ hr_
    have o0_ : r_ (.tmp 23) = .tuple #[.int .i64 (l), wideV S] := op_at hr_ 0 (by kernel_rfl) (by kernel_rfl)
    clear hr_
    go_simp; first | done | with_reducible rfl | omega
  simp only [Act.put, planVG, List.setIfInBounds_toArray, List.set_cons_zero, List.set_cons_succ, List.getElem?_cons_zero, List.getElem?_cons_succ]
  refine ⟨?_, ?_⟩
  · as_aux_lemma =>
    intro y_ hS_ hO_ hD
    clear hS_ hO_ hD
    refine s_gen (V := .int .i64 (l)) [.tuple #[.int .i64 (l), wideV S]] (by kernel_rfl) (by kernel_rfl) (by kernel_rfl) ?_
    intro r_ hr_
    have o0_ : r_ (.tmp 14) = .tuple #[.int .i64 (l), wideV S] := op_at hr_ 0 (by kernel_rfl) (by kernel_rfl)
    clear hr_
    go_simp; first | done | with_reducible rfl | omega
  simp only [Act.put, planVG, List.setIfInBounds_toArray, List.set_cons_zero, List.set_cons_succ, List.getElem?_cons_zero, List.getElem?_cons_succ]
  refine ⟨?_, ?_⟩
  · as_aux_lemma =>
    intro y_ hS_ hO_ hD
    clear hS_ hO_ hD
    refine s_gen (V := wideV S) [.tuple #[.int .i64 (l), wideV S]] (by kernel_rfl) (by kernel_rfl) (by kernel_rfl) ?_
    intro r_ hr_
    have o0_ : r_ (.tmp 14) = .tuple #[.int .i64 (l), wideV S] := op_at hr_ 0 (by kernel_rfl) (by kernel_rfl)
    clear hr_
    go_simp; first | done | with_reducible rfl | omega
  simp only [Act.put, planVG, List.setIfInBounds_toArray, List.set_cons_zero, List.set_cons_succ, List.getElem?_cons_zero, List.getElem?_cons_succ]
  refine ⟨?_, ?_⟩
  · as_aux_lemma =>
    intro y_ hS_ hO_ hD
    clear hS_ hO_ hD
    refine s_alloc (by rfl) (by rfl) ?_
    simp only [allocTy]
    go_simp; first | done | with_reducible rfl | rfl
  simp only [Act.put, planVG, List.setIfInBounds_toArray, List.set_cons_zero, List.set_cons_succ, List.getElem?_cons_zero, List.getElem?_cons_succ]
  refine ⟨?_, ?_⟩
  · as_aux_lemma =>
    intro y_ hS_ hO_ hD
    clear hS_ hO_ hD
    refine s_gen (V := .int .i64 (l)) [.int .i64 (l)] (by kernel_rfl) (by kernel_rfl) (by kernel_rfl) ?_
    intro r_ hr_
    have o0_ : r_ (.tmp 24) = .int .i64 (l) := op_at hr_ 0 (by kernel_rfl) (by kernel_rfl)
    clear hr_
    go_simp; first | done | with_reducible rfl | omega
  simp only [Act.put, planVG, List.setIfInBounds_toArray, List.set_cons_zero, List.set_cons_succ, List.getElem?_cons_zero, List.getElem?_cons_succ]
  as_aux_lemma =>
    intro w1 hS hF hD_
    change wpList _ _ _ _ _ _
    replace hS := sg_no (by decide) hS
    obtain ⟨hk, hZ1, X1, X2, X3⟩ := hS
    obtain ⟨v1_12, e_v1_12, hv1_12, Bv1_12⟩ : ∃ b, ρ 12 = .pointer (some ⟨b, 0, none⟩) ∧ w.heap.size + 1 + 1 + 1 ≤ b ∧ Box w1 b #[.int .u64 0, .int .u64 0, .int .u64 0, .int .u64 0] := by
      obtain ⟨b, h1, h2, h3⟩ := hF 12 (by decide)
      exact ⟨b, h1, h2, h3.lt, h3.cell, h3.free⟩
    clear hF hD_
    simp only [e_v1_12]
    clear e_v1_12
    clear ρ
    have hz_w1 := hk.size
    have X1l := X1.lt
    have X1f := X1.free
    have X1l1 : w.heap.size < w1.heap.size + 1 := by omega
    have X1l2 : w.heap.size < w1.heap.size + 1 + 1 := by omega
    have X1l3 : w.heap.size < w1.heap.size + 1 + 1 + 1 := by omega
    have X10 := X1.cell 0 _ rfl
    have X11 := X1.cell 1 _ rfl
    have X12 := X1.cell 2 _ rfl
    have X13 := X1.cell 3 _ rfl
    have X14 := X1.cell 4 _ rfl
    have X2l := X2.lt
    have X2f := X2.free
    have X2l1 : w.heap.size + 1 < w1.heap.size + 1 := by omega
    have X2l2 : w.heap.size + 1 < w1.heap.size + 1 + 1 := by omega
    have X2l3 : w.heap.size + 1 < w1.heap.size + 1 + 1 + 1 := by omega
    have X20 := X2.cell 0 _ rfl
    have X21 := X2.cell 1 _ rfl
    have X22 := X2.cell 2 _ rfl
    have X23 := X2.cell 3 _ rfl
    have X24 := X2.cell 4 _ rfl
    have X3l := X3.lt
    have X3f := X3.free
    have X3l1 : w.heap.size + 1 + 1 < w1.heap.size + 1 := by omega
    have X3l2 : w.heap.size + 1 + 1 < w1.heap.size + 1 + 1 := by omega
    have X3l3 : w.heap.size + 1 + 1 < w1.heap.size + 1 + 1 + 1 := by omega
    have X30 := X3.cell 0 _ rfl
    have X31 := X3.cell 1 _ rfl
    have X32 := X3.cell 2 _ rfl
    have X33 := X3.cell 3 _ rfl
    have X34 := X3.cell 4 _ rfl
    have Bv1_12l := Bv1_12.lt
    have Bv1_12f := Bv1_12.free
    have Bv1_12l1 : v1_12 < w1.heap.size + 1 := by omega
    have Bv1_12l2 : v1_12 < w1.heap.size + 1 + 1 := by omega
    have Bv1_12l3 : v1_12 < w1.heap.size + 1 + 1 + 1 := by omega
    have Bv1_120 := Bv1_12.cell 0 _ rfl
    have Bv1_121 := Bv1_12.cell 1 _ rfl
    have Bv1_122 := Bv1_12.cell 2 _ rfl
    have Bv1_123 := Bv1_12.cell 3 _ rfl
    go_upto_region 2 with fail
    refine wp_region_p 16 (fun W' => Kept w.heap.size w W' ∧ w1.heap.size ≤ W'.heap.size ∧ Box W' (w.heap.size) #[.int .i64 (x), .int .u64 (limb 0 A), .int .u64 (limb 1 A), .int .u64 (limb 2 A), .int .u64 (limb 3 A)] ∧ Box W' (w.heap.size + 1) #[.int .i64 (y), .int .u64 (limb 0 B), .int .u64 (limb 1 B), .int .u64 (limb 2 B), .int .u64 (limb 3 B)] ∧ Box W' (w.heap.size + 1 + 1) #[.bool (ng), .int .u8 (cl), .int .i64 (ex), .int .u64 (limb 1 N), .int .u64 (limb 0 N)] ∧ Box W' (v1_12) #[.int .u64 (limb 0 S), .int .u64 (limb 1 S), .int .u64 (limb 2 S), .int .u64 (limb 3 S)]) (fun W' => Kept w.heap.size w W' ∧ w1.heap.size ≤ W'.heap.size ∧ Box W' (w.heap.size) #[.int .i64 (x), .int .u64 (limb 0 A), .int .u64 (limb 1 A), .int .u64 (limb 2 A), .int .u64 (limb 3 A)] ∧ Box W' (w.heap.size + 1) #[.int .i64 (y), .int .u64 (limb 0 B), .int .u64 (limb 1 B), .int .u64 (limb 2 B), .int .u64 (limb 3 B)] ∧ Box W' (w.heap.size + 1 + 1) #[.bool (ng), .int .u8 (cl), .int .i64 (ex), .int .u64 (limb 1 N), .int .u64 (limb 0 N)] ∧ Box W' (v1_12) #[.int .u64 (limb 0 S), .int .u64 (limb 1 S), .int .u64 (limb 2 S), .int .u64 (limb 3 S)]) 1000 (w1.heap.size) [.known (.pointer (some ⟨w.heap.size, 0, none⟩)), .known (.int .i64 (x)), .known (.pointer (some ⟨w.heap.size, 1, none⟩)), .known (wideV A), .known (.pointer (some ⟨w.heap.size + 1, 0, none⟩)), .known (.int .i64 (y)), .known (.pointer (some ⟨w.heap.size + 1, 1, none⟩)), .known (wideV B), .known (.tuple #[.int .i64 (m), wideV T, .bool true]), .known (.tuple #[.int .i64 (m), wideV T, .bool true]), .known (.int .i64 (m)), .known (wideV T), .known (.bool true), .var #[.int .u64 0, .int .u64 0, .int .u64 0, .int .u64 0] 15 [.int .u64 (limb 0 T), .int .u64 (limb 1 T), .int .u64 (limb 2 T), .int .u64 (limb 3 T)], .known (.int .i64 (m)), .put 13] (by kernel_rfl) (by kernel_rfl) (fun W W' h hb => ⟨h.1.step hb, Nat.le_trans (h.2.1) hb.size, Box.call hb (h.2.2.1), Box.call hb (h.2.2.2.1), Box.call hb (h.2.2.2.2.1), Box.call hb (h.2.2.2.2.2)⟩) (fun W W' h hb => ⟨h.1.step hb, Nat.le_trans (h.2.1) hb.size, Box.call hb (h.2.2.1), Box.call hb (h.2.2.2.1), Box.call hb (h.2.2.2.2.1), Box.call hb (h.2.2.2.2.2)⟩) (no_out (of_decide_eq_true (by kernel_rfl))) (.inr (fun W' b i v hb h => ⟨h.1.setCell (p := ⟨b, i, none⟩) (by simp only []; omega) v, (by rw [World.size_setCell]; exact h.2.1), (h.2.2.1).other (by omega), (h.2.2.2.1).other (by omega), (h.2.2.2.2.1).other (by omega), (h.2.2.2.2.2).other (by omega)⟩)) (.inr (fun W' b i v hb h => ⟨h.1.setCell (p := ⟨b, i, none⟩) (by simp only []; omega) v, (by rw [World.size_setCell]; exact h.2.1), (h.2.2.1).other (by omega), (h.2.2.2.1).other (by omega), (h.2.2.2.2.1).other (by omega), (h.2.2.2.2.2).other (by omega)⟩)) (fun _ h => h.2.1) (fun _ h => h.2.1) (⟨(by repeat (first | with_reducible exact hk | with_reducible exact Kept.refl _ | with_reducible refine Kept.alloc ?_ _ | with_reducible refine Kept.drew ?_ | with_reducible refine Kept.setCell ?_ (by simp only [World.size_alloc, World.size_setCell, World.size_drew]; omega) _)), (by (try simp only [World.size_alloc, World.size_setCell, World.size_drew]); omega), (by repeat (first | with_reducible assumption | with_reducible apply Box.set10 | with_reducible apply Box.set20 | with_reducible apply Box.set21 | with_reducible apply Box.set40 | with_reducible apply Box.set41 | with_reducible apply Box.set42 | with_reducible apply Box.set43 | with_reducible apply Box.set50 | with_reducible apply Box.set51 | with_reducible apply Box.set52 | with_reducible apply Box.set53 | with_reducible apply Box.set54 | with_reducible apply Box.set80 | with_reducible apply Box.set81 | with_reducible apply Box.set82 | with_reducible apply Box.set83 | with_reducible apply Box.set84 | with_reducible apply Box.set85 | with_reducible apply Box.set86 | with_reducible apply Box.set87 | with_reducible apply Box.drew | (with_reducible apply Box.newAt; (try simp only [World.size_alloc, World.size_setCell, World.size_drew]); done) | with_reducible apply Box.alloc | (with_reducible apply Box.other; case hne => ((try simp only [World.size_alloc, World.size_setCell, World.size_drew]); omega)))), (by repeat (first | with_reducible assumption | with_reducible apply Box.set10 | with_reducible apply Box.set20 | with_reducible apply Box.set21 | with_reducible apply Box.set40 | with_reducible apply Box.set41 | with_reducible apply Box.set42 | with_reducible apply Box.set43 | with_reducible apply Box.set50 | with_reducible apply Box.set51 | with_reducible apply Box.set52 | with_reducible apply Box.set53 | with_reducible apply Box.set54 | with_reducible apply Box.set80 | with_reducible apply Box.set81 | with_reducible apply Box.set82 | with_reducible apply Box.set83 | with_reducible apply Box.set84 | with_reducible apply Box.set85 | with_reducible apply Box.set86 | with_reducible apply Box.set87 | with_reducible apply Box.drew | (with_reducible apply Box.newAt; (try simp only [World.size_alloc, World.size_setCell, World.size_drew]); done) | with_reducible apply Box.alloc | (with_reducible apply Box.other; case hne => ((try simp only [World.size_alloc, World.size_setCell, World.size_drew]); omega)))), (by repeat (first | with_reducible assumption | with_reducible apply Box.set10 | with_reducible apply Box.set20 | with_reducible apply Box.set21 | with_reducible apply Box.set40 | with_reducible apply Box.set41 | with_reducible apply Box.set42 | with_reducible apply Box.set43 | with_reducible apply Box.set50 | with_reducible apply Box.set51 | with_reducible apply Box.set52 | with_reducible apply Box.set53 | with_reducible apply Box.set54 | with_reducible apply Box.set80 | with_reducible apply Box.set81 | with_reducible apply Box.set82 | with_reducible apply Box.set83 | with_reducible apply Box.set84 | with_reducible apply Box.set85 | with_reducible apply Box.set86 | with_reducible apply Box.set87 | with_reducible apply Box.drew | (with_reducible apply Box.newAt; (try simp only [World.size_alloc, World.size_setCell, World.size_drew]); done) | with_reducible apply Box.alloc | (with_reducible apply Box.other; case hne => ((try simp only [World.size_alloc, World.size_setCell, World.size_drew]); omega)))), (by repeat (first | with_reducible assumption | with_reducible apply Box.set10 | with_reducible apply Box.set20 | with_reducible apply Box.set21 | with_reducible apply Box.set40 | with_reducible apply Box.set41 | with_reducible apply Box.set42 | with_reducible apply Box.set43 | with_reducible apply Box.set50 | with_reducible apply Box.set51 | with_reducible apply Box.set52 | with_reducible apply Box.set53 | with_reducible apply Box.set54 | with_reducible apply Box.set80 | with_reducible apply Box.set81 | with_reducible apply Box.set82 | with_reducible apply Box.set83 | with_reducible apply Box.set84 | with_reducible apply Box.set85 | with_reducible apply Box.set86 | with_reducible apply Box.set87 | with_reducible apply Box.drew | (with_reducible apply Box.newAt; (try simp only [World.size_alloc, World.size_setCell, World.size_drew]); done) | with_reducible apply Box.alloc | (with_reducible apply Box.other; case hne => ((try simp only [World.size_alloc, World.size_setCell, World.size_drew]); omega))))⟩) ?_
    clear hk
    clear X1 X1l1 X1l2 X1l3 X1f X10 X11 X12 X13 X14
    clear X2 X2l1 X2l2 X2l3 X2f X20 X21 X22 X23 X24
    clear X3 X3l1 X3l2 X3l3 X3f X30 X31 X32 X33 X34
    clear Bv1_12 Bv1_12l1 Bv1_12l2 Bv1_12l3 Bv1_12f Bv1_120 Bv1_121 Bv1_122 Bv1_123
    intro ρ
    simp only [List.take_succ_cons, List.take_zero, List.drop_succ_cons, List.drop_zero]
    refine ⟨?_, ?_⟩
    · as_aux_lemma =>
      intro y_ hS_ hO_ hD
      clear hS_ hO_ hD
      refine s_gen (V := .pointer (some ⟨w.heap.size, 0, none⟩)) [.pointer (some ⟨w.heap.size, 0, none⟩)] (by kernel_rfl) (by kernel_rfl) (by kernel_rfl) ?_
      intro r_ hr_
      have o0_ : r_ (.tmp 3) = .pointer (some ⟨w.heap.size, 0, none⟩) := op_at hr_ 0 (by kernel_rfl) (by kernel_rfl)
      clear hr_
      go_simp; first | done | with_reducible rfl | omega
    simp only [Act.put, planVG, List.setIfInBounds_toArray, List.set_cons_zero, List.set_cons_succ, List.getElem?_cons_zero, List.getElem?_cons_succ]
    refine ⟨?_, ?_⟩
    · as_aux_lemma =>
      intro y_ hS_ hO_ hD
      have Q := ((hS_ (by rfl)).2.2.1).cell
      have q0 := Q 0 _ rfl
      have q1 := Q 1 _ rfl
      have q2 := Q 2 _ rfl
      have q3 := Q 3 _ rfl
      have q4 := Q 4 _ rfl
      clear Q hS_ hO_ hD
      refine s_gen (V := .int .i64 (x)) [.pointer (some ⟨w.heap.size, 0, none⟩)] (by kernel_rfl) (by kernel_rfl) (by kernel_rfl) ?_
      intro r_ hr_
      have o0_ : r_ (.tmp 27) = .pointer (some ⟨w.heap.size, 0, none⟩) := op_at hr_ 0 (by kernel_rfl) (by kernel_rfl)
      clear hr_
      go_simp; first | done | with_reducible rfl
    simp only [Act.put, planVG, List.setIfInBounds_toArray, List.set_cons_zero, List.set_cons_succ, List.getElem?_cons_zero, List.getElem?_cons_succ]
    refine ⟨?_, ?_⟩
    · as_aux_lemma =>
      intro y_ hS_ hO_ hD
      clear hS_ hO_ hD
      refine s_gen (V := .pointer (some ⟨w.heap.size, 1, none⟩)) [.pointer (some ⟨w.heap.size, 0, none⟩)] (by kernel_rfl) (by kernel_rfl) (by kernel_rfl) ?_
      intro r_ hr_
      have o0_ : r_ (.tmp 3) = .pointer (some ⟨w.heap.size, 0, none⟩) := op_at hr_ 0 (by kernel_rfl) (by kernel_rfl)
      clear hr_
      go_simp; first | done | with_reducible rfl | omega
    simp only [Act.put, planVG, List.setIfInBounds_toArray, List.set_cons_zero, List.set_cons_succ, List.getElem?_cons_zero, List.getElem?_cons_succ]
    refine ⟨?_, ?_⟩
    · as_aux_lemma =>
      intro y_ hS_ hO_ hD
      have Q := ((hS_ (by rfl)).2.2.1).cell
      have q0 := Q 0 _ rfl
      have q1 := Q 1 _ rfl
      have q2 := Q 2 _ rfl
      have q3 := Q 3 _ rfl
      have q4 := Q 4 _ rfl
      clear Q hS_ hO_ hD
      refine s_gen (V := wideV A) [.pointer (some ⟨w.heap.size, 1, none⟩)] (by kernel_rfl) (by kernel_rfl) (by kernel_rfl) ?_
      intro r_ hr_
      have o0_ : r_ (.tmp 29) = .pointer (some ⟨w.heap.size, 1, none⟩) := op_at hr_ 0 (by kernel_rfl) (by kernel_rfl)
      clear hr_
      go_simp; first | done | with_reducible rfl
    simp only [Act.put, planVG, List.setIfInBounds_toArray, List.set_cons_zero, List.set_cons_succ, List.getElem?_cons_zero, List.getElem?_cons_succ]
    refine ⟨?_, ?_⟩
    · as_aux_lemma =>
      intro y_ hS_ hO_ hD
      clear hS_ hO_ hD
      refine s_gen (V := .pointer (some ⟨w.heap.size + 1, 0, none⟩)) [.pointer (some ⟨w.heap.size + 1, 0, none⟩)] (by kernel_rfl) (by kernel_rfl) (by kernel_rfl) ?_
      intro r_ hr_
      have o0_ : r_ (.tmp 4) = .pointer (some ⟨w.heap.size + 1, 0, none⟩) := op_at hr_ 0 (by kernel_rfl) (by kernel_rfl)
      clear hr_
      go_simp; first | done | with_reducible rfl | omega
    simp only [Act.put, planVG, List.setIfInBounds_toArray, List.set_cons_zero, List.set_cons_succ, List.getElem?_cons_zero, List.getElem?_cons_succ]
    refine ⟨?_, ?_⟩
    · as_aux_lemma =>
      intro y_ hS_ hO_ hD
      have Q := ((hS_ (by rfl)).2.2.2.1).cell
      have q0 := Q 0 _ rfl
      have q1 := Q 1 _ rfl
      have q2 := Q 2 _ rfl
      have q3 := Q 3 _ rfl
      have q4 := Q 4 _ rfl
      clear Q hS_ hO_ hD
      refine s_gen (V := .int .i64 (y)) [.pointer (some ⟨w.heap.size + 1, 0, none⟩)] (by kernel_rfl) (by kernel_rfl) (by kernel_rfl) ?_
      intro r_ hr_
      have o0_ : r_ (.tmp 31) = .pointer (some ⟨w.heap.size + 1, 0, none⟩) := op_at hr_ 0 (by kernel_rfl) (by kernel_rfl)
      clear hr_
      go_simp; first | done | with_reducible rfl
    simp only [Act.put, planVG, List.setIfInBounds_toArray, List.set_cons_zero, List.set_cons_succ, List.getElem?_cons_zero, List.getElem?_cons_succ]
    refine ⟨?_, ?_⟩
    · as_aux_lemma =>
      intro y_ hS_ hO_ hD
      clear hS_ hO_ hD
      refine s_gen (V := .pointer (some ⟨w.heap.size + 1, 1, none⟩)) [.pointer (some ⟨w.heap.size + 1, 0, none⟩)] (by kernel_rfl) (by kernel_rfl) (by kernel_rfl) ?_
      intro r_ hr_
      have o0_ : r_ (.tmp 4) = .pointer (some ⟨w.heap.size + 1, 0, none⟩) := op_at hr_ 0 (by kernel_rfl) (by kernel_rfl)
      clear hr_
      go_simp; first | done | with_reducible rfl | omega
    simp only [Act.put, planVG, List.setIfInBounds_toArray, List.set_cons_zero, List.set_cons_succ, List.getElem?_cons_zero, List.getElem?_cons_succ]
    refine ⟨?_, ?_⟩
    · as_aux_lemma =>
      intro y_ hS_ hO_ hD
      have Q := ((hS_ (by rfl)).2.2.2.1).cell
      have q0 := Q 0 _ rfl
      have q1 := Q 1 _ rfl
      have q2 := Q 2 _ rfl
      have q3 := Q 3 _ rfl
      have q4 := Q 4 _ rfl
      clear Q hS_ hO_ hD
      refine s_gen (V := wideV B) [.pointer (some ⟨w.heap.size + 1, 1, none⟩)] (by kernel_rfl) (by kernel_rfl) (by kernel_rfl) ?_
      intro r_ hr_
      have o0_ : r_ (.tmp 33) = .pointer (some ⟨w.heap.size + 1, 1, none⟩) := op_at hr_ 0 (by kernel_rfl) (by kernel_rfl)
      clear hr_
      go_simp; first | done | with_reducible rfl
    simp only [Act.put, planVG, List.setIfInBounds_toArray, List.set_cons_zero, List.set_cons_succ, List.getElem?_cons_zero, List.getElem?_cons_succ]
    refine ⟨?_, ?_⟩
    · as_aux_lemma =>
      intro y_ hS_ hO_ hD
      try clear hS
      clear hS_ hO_ hD
      refine s_gcall (V := .tuple #[.int .i64 (m), wideV T, .bool true]) [.func (.func 53) #[] #[], .int .i64 (x), wideV A, .int .i64 (y), wideV B] ?_ ?_ (by kernel_rfl) (by kernel_rfl) (by kernel_rfl) ?_ ?_
      rotate_left 2
      · intro r_ hr_
        have o0_ : r_ (.func 53) = .func (.func 53) #[] #[] := op_at hr_ 0 (by kernel_rfl) (by kernel_rfl)
        have o1_ : r_ (.tmp 28) = .int .i64 (x) := op_at hr_ 1 (by kernel_rfl) (by kernel_rfl)
        have o2_ : r_ (.tmp 30) = wideV A := op_at hr_ 2 (by kernel_rfl) (by kernel_rfl)
        have o3_ : r_ (.tmp 32) = .int .i64 (y) := op_at hr_ 3 (by kernel_rfl) (by kernel_rfl)
        have o4_ : r_ (.tmp 34) = wideV B := op_at hr_ 4 (by kernel_rfl) (by kernel_rfl)
        clear hr_
        go_simp; first | done | with_reducible rfl | (constructor <;> with_reducible rfl)
      · refine H2.out _
    simp only [Act.put, planVG, List.setIfInBounds_toArray, List.set_cons_zero, List.set_cons_succ, List.getElem?_cons_zero, List.getElem?_cons_succ]
    refine ⟨?_, ?_⟩
    · as_aux_lemma =>
      intro y_ hS_ hO_ hD
      clear hS_ hO_ hD
      refine s_gen (V := .tuple #[.int .i64 (m), wideV T, .bool true]) [.tuple #[.int .i64 (m), wideV T, .bool true]] (by kernel_rfl) (by kernel_rfl) (by kernel_rfl) ?_
      intro r_ hr_
      have o0_ : r_ (.tmp 35) = .tuple #[.int .i64 (m), wideV T, .bool true] := op_at hr_ 0 (by kernel_rfl) (by kernel_rfl)
      clear hr_
      go_simp; first | done | with_reducible rfl | omega
    simp only [Act.put, planVG, List.setIfInBounds_toArray, List.set_cons_zero, List.set_cons_succ, List.getElem?_cons_zero, List.getElem?_cons_succ]
    refine ⟨?_, ?_⟩
    · as_aux_lemma =>
      intro y_ hS_ hO_ hD
      clear hS_ hO_ hD
      refine s_gen (V := .int .i64 (m)) [.tuple #[.int .i64 (m), wideV T, .bool true]] (by kernel_rfl) (by kernel_rfl) (by kernel_rfl) ?_
      intro r_ hr_
      have o0_ : r_ (.tmp 26) = .tuple #[.int .i64 (m), wideV T, .bool true] := op_at hr_ 0 (by kernel_rfl) (by kernel_rfl)
      clear hr_
      go_simp; first | done | with_reducible rfl | omega
    simp only [Act.put, planVG, List.setIfInBounds_toArray, List.set_cons_zero, List.set_cons_succ, List.getElem?_cons_zero, List.getElem?_cons_succ]
    refine ⟨?_, ?_⟩
    · as_aux_lemma =>
      intro y_ hS_ hO_ hD
      clear hS_ hO_ hD
      refine s_gen (V := wideV T) [.tuple #[.int .i64 (m), wideV T, .bool true]] (by kernel_rfl) (by kernel_rfl) (by kernel_rfl) ?_
      intro r_ hr_
      have o0_ : r_ (.tmp 26) = .tuple #[.int .i64 (m), wideV T, .bool true] := op_at hr_ 0 (by kernel_rfl) (by kernel_rfl)
      clear hr_
      go_simp; first | done | with_reducible rfl | omega
    simp only [Act.put, planVG, List.setIfInBounds_toArray, List.set_cons_zero, List.set_cons_succ, List.getElem?_cons_zero, List.getElem?_cons_succ]
    refine ⟨?_, ?_⟩
    · as_aux_lemma =>
      intro y_ hS_ hO_ hD
      clear hS_ hO_ hD
      refine s_gen (V := .bool true) [.tuple #[.int .i64 (m), wideV T, .bool true]] (by kernel_rfl) (by kernel_rfl) (by kernel_rfl) ?_
      intro r_ hr_
      have o0_ : r_ (.tmp 26) = .tuple #[.int .i64 (m), wideV T, .bool true] := op_at hr_ 0 (by kernel_rfl) (by kernel_rfl)
      clear hr_
      go_simp; first | done | with_reducible rfl | omega
    simp only [Act.put, planVG, List.setIfInBounds_toArray, List.set_cons_zero, List.set_cons_succ, List.getElem?_cons_zero, List.getElem?_cons_succ]
    refine ⟨?_, ?_⟩
    · as_aux_lemma =>
      intro y_ hS_ hO_ hD
      clear hS_ hO_ hD
      refine s_alloc (by rfl) (by rfl) ?_
      simp only [allocTy]
      go_simp; first | done | with_reducible rfl | rfl
    simp only [Act.put, planVG, List.setIfInBounds_toArray, List.set_cons_zero, List.set_cons_succ, List.getElem?_cons_zero, List.getElem?_cons_succ]
    refine ⟨?_, ?_⟩
    · as_aux_lemma =>
      intro y_ hS_ hO_ hD
      clear hS_ hO_ hD
      refine s_gen (V := .int .i64 (m)) [.int .i64 (m)] (by kernel_rfl) (by kernel_rfl) (by kernel_rfl) ?_
      intro r_ hr_
      have o0_ : r_ (.tmp 36) = .int .i64 (m) := op_at hr_ 0 (by kernel_rfl) (by kernel_rfl)
      clear hr_
      go_simp; first | done | with_reducible rfl | omega
    simp only [Act.put, planVG, List.setIfInBounds_toArray, List.set_cons_zero, List.set_cons_succ, List.getElem?_cons_zero, List.getElem?_cons_succ]
    refine ⟨?_, ?_⟩
    · as_aux_lemma =>
      intro y_ hS_ hO_ hD
      have hS := hS_ (by rfl)
      clear hS hS_ hO_ hD
      refine s_gput (j := 13) (Z := #[.int .u64 0, .int .u64 0, .int .u64 0, .int .u64 0]) (V := [.int .u64 (limb 0 T), .int .u64 (limb 1 T), .int .u64 (limb 2 T), .int .u64 (limb 3 T)]) [ρ 13, wideV T] (by kernel_rfl) (by kernel_rfl) (by kernel_rfl) (by kernel_rfl) ?_
      intro r_ b hr_ hb hB F
      have o0_ : r_ (.tmp 10) = ρ 13 := op_at hr_ 0 (by kernel_rfl) (by kernel_rfl)
      have o1_ : r_ (.tmp 37) = wideV T := op_at hr_ 1 (by kernel_rfl) (by kernel_rfl)
      clear hr_
      rw [hb] at o0_
      have Q := F.cell
      have q0 := Q 0 _ rfl
      have q1 := Q 1 _ rfl
      have q2 := Q 2 _ rfl
      have q3 := Q 3 _ rfl
      have Qf := F.free
      have Ql := F.lt
      clear Q F
      simp only [putCells]
      go_simp; first | done | with_reducible rfl | rfl
    simp only [Act.put, planVG, List.setIfInBounds_toArray, List.set_cons_zero, List.set_cons_succ, List.getElem?_cons_zero, List.getElem?_cons_succ]
    as_aux_lemma =>
      intro w2 hS hF hD_
      change wpList _ _ _ _ _ _
      replace hS := sg_no (by decide) hS
      obtain ⟨hk, hZ2, X1, X2, X3, Bv1_12⟩ := hS
      obtain ⟨v2_13, e_v2_13, hv2_13, Bv2_13⟩ : ∃ b, ρ 13 = .pointer (some ⟨b, 0, none⟩) ∧ w1.heap.size ≤ b ∧ Box w2 b #[.int .u64 (limb 0 T), .int .u64 (limb 1 T), .int .u64 (limb 2 T), .int .u64 (limb 3 T)] := by
        obtain ⟨b, h1, h2, h3⟩ := hF 13 (by decide)
        exact ⟨b, h1, h2, h3.lt, h3.cell, h3.free⟩
      clear hF hD_
      simp only [e_v2_13]
      clear e_v2_13
      clear ρ
      have hz_w2 := hk.size
      have X1l := X1.lt
      have X1f := X1.free
      have X1l1 : w.heap.size < w2.heap.size + 1 := by omega
      have X1l2 : w.heap.size < w2.heap.size + 1 + 1 := by omega
      have X1l3 : w.heap.size < w2.heap.size + 1 + 1 + 1 := by omega
      have X10 := X1.cell 0 _ rfl
      have X11 := X1.cell 1 _ rfl
      have X12 := X1.cell 2 _ rfl
      have X13 := X1.cell 3 _ rfl
      have X14 := X1.cell 4 _ rfl
      have X2l := X2.lt
      have X2f := X2.free
      have X2l1 : w.heap.size + 1 < w2.heap.size + 1 := by omega
      have X2l2 : w.heap.size + 1 < w2.heap.size + 1 + 1 := by omega
      have X2l3 : w.heap.size + 1 < w2.heap.size + 1 + 1 + 1 := by omega
      have X20 := X2.cell 0 _ rfl
      have X21 := X2.cell 1 _ rfl
      have X22 := X2.cell 2 _ rfl
      have X23 := X2.cell 3 _ rfl
      have X24 := X2.cell 4 _ rfl
      have X3l := X3.lt
      have X3f := X3.free
      have X3l1 : w.heap.size + 1 + 1 < w2.heap.size + 1 := by omega
      have X3l2 : w.heap.size + 1 + 1 < w2.heap.size + 1 + 1 := by omega
      have X3l3 : w.heap.size + 1 + 1 < w2.heap.size + 1 + 1 + 1 := by omega
      have X30 := X3.cell 0 _ rfl
      have X31 := X3.cell 1 _ rfl
      have X32 := X3.cell 2 _ rfl
      have X33 := X3.cell 3 _ rfl
      have X34 := X3.cell 4 _ rfl
      have Bv1_12l := Bv1_12.lt
      have Bv1_12f := Bv1_12.free
      have Bv1_12l1 : v1_12 < w2.heap.size + 1 := by omega
      have Bv1_12l2 : v1_12 < w2.heap.size + 1 + 1 := by omega
      have Bv1_12l3 : v1_12 < w2.heap.size + 1 + 1 + 1 := by omega
      have Bv1_120 := Bv1_12.cell 0 _ rfl
      have Bv1_121 := Bv1_12.cell 1 _ rfl
      have Bv1_122 := Bv1_12.cell 2 _ rfl
      have Bv1_123 := Bv1_12.cell 3 _ rfl
      have Bv2_13l := Bv2_13.lt
      have Bv2_13f := Bv2_13.free
      have Bv2_13l1 : v2_13 < w2.heap.size + 1 := by omega
      have Bv2_13l2 : v2_13 < w2.heap.size + 1 + 1 := by omega
      have Bv2_13l3 : v2_13 < w2.heap.size + 1 + 1 + 1 := by omega
      have Bv2_130 := Bv2_13.cell 0 _ rfl
      have Bv2_131 := Bv2_13.cell 1 _ rfl
      have Bv2_132 := Bv2_13.cell 2 _ rfl
      have Bv2_133 := Bv2_13.cell 3 _ rfl
      go_wp2_with fail
      (with_reducible refine (H4.out _).mono ?_)
      rintro e w3 ⟨rfl, hb⟩
      have X1' : Box w3 (w.heap.size) #[.int .i64 (x), .int .u64 (limb 0 A), .int .u64 (limb 1 A), .int .u64 (limb 2 A), .int .u64 (limb 3 A)] := Box.call hb (by repeat (first | with_reducible assumption | with_reducible apply Box.set10 | with_reducible apply Box.set20 | with_reducible apply Box.set21 | with_reducible apply Box.set40 | with_reducible apply Box.set41 | with_reducible apply Box.set42 | with_reducible apply Box.set43 | with_reducible apply Box.set50 | with_reducible apply Box.set51 | with_reducible apply Box.set52 | with_reducible apply Box.set53 | with_reducible apply Box.set54 | with_reducible apply Box.set80 | with_reducible apply Box.set81 | with_reducible apply Box.set82 | with_reducible apply Box.set83 | with_reducible apply Box.set84 | with_reducible apply Box.set85 | with_reducible apply Box.set86 | with_reducible apply Box.set87 | with_reducible apply Box.drew | (with_reducible apply Box.newAt; (try simp only [World.size_alloc, World.size_setCell, World.size_drew]); done) | with_reducible apply Box.alloc | (with_reducible apply Box.other; case hne => ((try simp only [World.size_alloc, World.size_setCell, World.size_drew]); omega))))
      have X2' : Box w3 (w.heap.size + 1) #[.int .i64 (y), .int .u64 (limb 0 B), .int .u64 (limb 1 B), .int .u64 (limb 2 B), .int .u64 (limb 3 B)] := Box.call hb (by repeat (first | with_reducible assumption | with_reducible apply Box.set10 | with_reducible apply Box.set20 | with_reducible apply Box.set21 | with_reducible apply Box.set40 | with_reducible apply Box.set41 | with_reducible apply Box.set42 | with_reducible apply Box.set43 | with_reducible apply Box.set50 | with_reducible apply Box.set51 | with_reducible apply Box.set52 | with_reducible apply Box.set53 | with_reducible apply Box.set54 | with_reducible apply Box.set80 | with_reducible apply Box.set81 | with_reducible apply Box.set82 | with_reducible apply Box.set83 | with_reducible apply Box.set84 | with_reducible apply Box.set85 | with_reducible apply Box.set86 | with_reducible apply Box.set87 | with_reducible apply Box.drew | (with_reducible apply Box.newAt; (try simp only [World.size_alloc, World.size_setCell, World.size_drew]); done) | with_reducible apply Box.alloc | (with_reducible apply Box.other; case hne => ((try simp only [World.size_alloc, World.size_setCell, World.size_drew]); omega))))
      have X3' : Box w3 (w.heap.size + 1 + 1) #[.bool (ng), .int .u8 (cl), .int .i64 (ex), .int .u64 (limb 1 N), .int .u64 (limb 0 N)] := Box.call hb (by repeat (first | with_reducible assumption | with_reducible apply Box.set10 | with_reducible apply Box.set20 | with_reducible apply Box.set21 | with_reducible apply Box.set40 | with_reducible apply Box.set41 | with_reducible apply Box.set42 | with_reducible apply Box.set43 | with_reducible apply Box.set50 | with_reducible apply Box.set51 | with_reducible apply Box.set52 | with_reducible apply Box.set53 | with_reducible apply Box.set54 | with_reducible apply Box.set80 | with_reducible apply Box.set81 | with_reducible apply Box.set82 | with_reducible apply Box.set83 | with_reducible apply Box.set84 | with_reducible apply Box.set85 | with_reducible apply Box.set86 | with_reducible apply Box.set87 | with_reducible apply Box.drew | (with_reducible apply Box.newAt; (try simp only [World.size_alloc, World.size_setCell, World.size_drew]); done) | with_reducible apply Box.alloc | (with_reducible apply Box.other; case hne => ((try simp only [World.size_alloc, World.size_setCell, World.size_drew]); omega))))
      have Bv1_12' : Box w3 (v1_12) #[.int .u64 (limb 0 S), .int .u64 (limb 1 S), .int .u64 (limb 2 S), .int .u64 (limb 3 S)] := Box.call hb (by repeat (first | with_reducible assumption | with_reducible apply Box.set10 | with_reducible apply Box.set20 | with_reducible apply Box.set21 | with_reducible apply Box.set40 | with_reducible apply Box.set41 | with_reducible apply Box.set42 | with_reducible apply Box.set43 | with_reducible apply Box.set50 | with_reducible apply Box.set51 | with_reducible apply Box.set52 | with_reducible apply Box.set53 | with_reducible apply Box.set54 | with_reducible apply Box.set80 | with_reducible apply Box.set81 | with_reducible apply Box.set82 | with_reducible apply Box.set83 | with_reducible apply Box.set84 | with_reducible apply Box.set85 | with_reducible apply Box.set86 | with_reducible apply Box.set87 | with_reducible apply Box.drew | (with_reducible apply Box.newAt; (try simp only [World.size_alloc, World.size_setCell, World.size_drew]); done) | with_reducible apply Box.alloc | (with_reducible apply Box.other; case hne => ((try simp only [World.size_alloc, World.size_setCell, World.size_drew]); omega))))
      have Bv2_13' : Box w3 (v2_13) #[.int .u64 (limb 0 T), .int .u64 (limb 1 T), .int .u64 (limb 2 T), .int .u64 (limb 3 T)] := Box.call hb (by repeat (first | with_reducible assumption | with_reducible apply Box.set10 | with_reducible apply Box.set20 | with_reducible apply Box.set21 | with_reducible apply Box.set40 | with_reducible apply Box.set41 | with_reducible apply Box.set42 | with_reducible apply Box.set43 | with_reducible apply Box.set50 | with_reducible apply Box.set51 | with_reducible apply Box.set52 | with_reducible apply Box.set53 | with_reducible apply Box.set54 | with_reducible apply Box.set80 | with_reducible apply Box.set81 | with_reducible apply Box.set82 | with_reducible apply Box.set83 | with_reducible apply Box.set84 | with_reducible apply Box.set85 | with_reducible apply Box.set86 | with_reducible apply Box.set87 | with_reducible apply Box.drew | (with_reducible apply Box.newAt; (try simp only [World.size_alloc, World.size_setCell, World.size_drew]); done) | with_reducible apply Box.alloc | (with_reducible apply Box.other; case hne => ((try simp only [World.size_alloc, World.size_setCell, World.size_drew]); omega))))
      have hk' : Kept w.heap.size w w3 := Kept.step (by repeat (first | with_reducible exact hk | with_reducible exact Kept.refl _ | with_reducible refine Kept.alloc ?_ _ | with_reducible refine Kept.drew ?_ | with_reducible refine Kept.setCell ?_ (by simp only [World.size_alloc, World.size_setCell, World.size_drew]; omega) _)) hb
      clear hk hb
      clear X1 X1l1 X1l2 X1l3 X1f X10 X11 X12 X13 X14
      clear X2 X2l1 X2l2 X2l3 X2f X20 X21 X22 X23 X24
      clear X3 X3l1 X3l2 X3l3 X3f X30 X31 X32 X33 X34
      clear Bv1_12 Bv1_12l1 Bv1_12l2 Bv1_12l3 Bv1_12f Bv1_120 Bv1_121 Bv1_122 Bv1_123
      clear Bv2_13 Bv2_13l1 Bv2_13l2 Bv2_13l3 Bv2_13f Bv2_130 Bv2_131 Bv2_132 Bv2_133
      have X1 := X1'
      clear X1'
      have X2 := X2'
      clear X2'
      have X3 := X3'
      clear X3'
      have Bv1_12 := Bv1_12'
      clear Bv1_12'
      have Bv2_13 := Bv2_13'
      clear Bv2_13'
      have hk := hk'
      clear hk'
      have hz_w3 := hk.size
      have X1l := X1.lt
      have X1f := X1.free
      have X1l1 : w.heap.size < w3.heap.size + 1 := by omega
      have X1l2 : w.heap.size < w3.heap.size + 1 + 1 := by omega
      have X1l3 : w.heap.size < w3.heap.size + 1 + 1 + 1 := by omega
      have X10 := X1.cell 0 _ rfl
      have X11 := X1.cell 1 _ rfl
      have X12 := X1.cell 2 _ rfl
      have X13 := X1.cell 3 _ rfl
      have X14 := X1.cell 4 _ rfl
      have X2l := X2.lt
      have X2f := X2.free
      have X2l1 : w.heap.size + 1 < w3.heap.size + 1 := by omega
      have X2l2 : w.heap.size + 1 < w3.heap.size + 1 + 1 := by omega
      have X2l3 : w.heap.size + 1 < w3.heap.size + 1 + 1 + 1 := by omega
      have X20 := X2.cell 0 _ rfl
      have X21 := X2.cell 1 _ rfl
      have X22 := X2.cell 2 _ rfl
      have X23 := X2.cell 3 _ rfl
      have X24 := X2.cell 4 _ rfl
      have X3l := X3.lt
      have X3f := X3.free
      have X3l1 : w.heap.size + 1 + 1 < w3.heap.size + 1 := by omega
      have X3l2 : w.heap.size + 1 + 1 < w3.heap.size + 1 + 1 := by omega
      have X3l3 : w.heap.size + 1 + 1 < w3.heap.size + 1 + 1 + 1 := by omega
      have X30 := X3.cell 0 _ rfl
      have X31 := X3.cell 1 _ rfl
      have X32 := X3.cell 2 _ rfl
      have X33 := X3.cell 3 _ rfl
      have X34 := X3.cell 4 _ rfl
      have Bv1_12l := Bv1_12.lt
      have Bv1_12f := Bv1_12.free
      have Bv1_12l1 : v1_12 < w3.heap.size + 1 := by omega
      have Bv1_12l2 : v1_12 < w3.heap.size + 1 + 1 := by omega
      have Bv1_12l3 : v1_12 < w3.heap.size + 1 + 1 + 1 := by omega
      have Bv1_120 := Bv1_12.cell 0 _ rfl
      have Bv1_121 := Bv1_12.cell 1 _ rfl
      have Bv1_122 := Bv1_12.cell 2 _ rfl
      have Bv1_123 := Bv1_12.cell 3 _ rfl
      have Bv2_13l := Bv2_13.lt
      have Bv2_13f := Bv2_13.free
      have Bv2_13l1 : v2_13 < w3.heap.size + 1 := by omega
      have Bv2_13l2 : v2_13 < w3.heap.size + 1 + 1 := by omega
      have Bv2_13l3 : v2_13 < w3.heap.size + 1 + 1 + 1 := by omega
      have Bv2_130 := Bv2_13.cell 0 _ rfl
      have Bv2_131 := Bv2_13.cell 1 _ rfl
      have Bv2_132 := Bv2_13.cell 2 _ rfl
      have Bv2_133 := Bv2_13.cell 3 _ rfl
      go_wp2
      refine wp_region_g 50 (fun W' => Kept w.heap.size w W' ∧ w3.heap.size + 1 ≤ W'.heap.size ∧ Box W' (w.heap.size) #[.int .i64 (x), .int .u64 (limb 0 A), .int .u64 (limb 1 A), .int .u64 (limb 2 A), .int .u64 (limb 3 A)] ∧ Box W' (w.heap.size + 1) #[.int .i64 (y), .int .u64 (limb 0 B), .int .u64 (limb 1 B), .int .u64 (limb 2 B), .int .u64 (limb 3 B)] ∧ Box W' (w.heap.size + 1 + 1) #[.bool (ng), .int .u8 (cl), .int .i64 (ex), .int .u64 (limb 1 N), .int .u64 (limb 0 N)] ∧ Box W' (v1_12) #[.int .u64 (limb 0 S), .int .u64 (limb 1 S), .int .u64 (limb 2 S), .int .u64 (limb 3 S)] ∧ Box W' (v2_13) #[.int .u64 (limb 0 T), .int .u64 (limb 1 T), .int .u64 (limb 2 T), .int .u64 (limb 3 T)] ∧ Box W' (w3.heap.size) #[.int .i64 (m), .int .u64 (limb 0 T), .int .u64 (limb 1 T), .int .u64 (limb 2 T), .int .u64 (limb 3 T)]) (fun W' => Kept w.heap.size w W' ∧ w3.heap.size + 1 ≤ W'.heap.size ∧ Box W' (w.heap.size) #[.int .i64 (x), .int .u64 (limb 0 A), .int .u64 (limb 1 A), .int .u64 (limb 2 A), .int .u64 (limb 3 A)] ∧ Box W' (w.heap.size + 1) #[.int .i64 (y), .int .u64 (limb 0 B), .int .u64 (limb 1 B), .int .u64 (limb 2 B), .int .u64 (limb 3 B)] ∧ Box W' (w.heap.size + 1 + 1) #[.bool (ng), .int .u8 (cl), .int .i64 (ex), .int .u64 (limb 1 N), .int .u64 (limb 0 N)] ∧ Box W' (v1_12) #[.int .u64 (limb 0 S), .int .u64 (limb 1 S), .int .u64 (limb 2 S), .int .u64 (limb 3 S)] ∧ Box W' (v2_13) #[.int .u64 (limb 0 T), .int .u64 (limb 1 T), .int .u64 (limb 2 T), .int .u64 (limb 3 T)] ∧ Box W' (w3.heap.size) #[.int .i64 (m), .int .u64 (limb 0 T), .int .u64 (limb 1 T), .int .u64 (limb 2 T), .int .u64 (limb 3 T)]) 1000 (w3.heap.size + 1) [.known (termV x A), .known (termV y B), .known (termV l S), .known (.int .i64 (l)), .known (wideV S), .known (termV l S), .known (.bool true), .known (.bool true), .known (termV m T), .known (.int .i64 (m)), .known (wideV T), .known (termV m T), .known (.bool true), .known (.bool true), .known (.bool true), .known (.bool true), .known (.bool true), .known (.bool true), .known (.bool true), .known (.bool true), .known (termV x A), .known (termV y B), .known (.int .i64 (c)), .known (.pointer (some ⟨w.heap.size, 0, none⟩)), .known (.int .i64 (x)), .known (.pointer (some ⟨w.heap.size, 1, none⟩)), .known (wideV A), .known (.pointer (some ⟨w.heap.size + 1, 0, none⟩)), .known (.int .i64 (y)), .known (.pointer (some ⟨w.heap.size + 1, 1, none⟩)), .known (wideV B), .known (.int .i64 (c)), .known (.bool true), .known (.bool true), .known (.bool true), .known (.agg #[.bool (ng), .int .u8 (cl), .int .i64 (ex), .int .u64 (limb 1 N), .int .u64 (limb 0 N)]), .known (termV ex J), .known (.pointer (some ⟨w.heap.size + 1 + 1, 2, none⟩)), .known (.int .i64 (ex)), .known (.pointer (some ⟨w.heap.size + 1 + 1, 3, none⟩)), .known (bitsV N), .known (.agg #[.int .u64 0, .int .u64 0]), .known (wideV J), .known (termV ex J), .known (.bool true), .known (.bool true), .known (.bool true), .known (.bool true), .known (.bool true), .known (.bool true)] (by kernel_rfl) (by kernel_rfl) (fun W W' h hb => ⟨h.1.step hb, Nat.le_trans (h.2.1) hb.size, Box.call hb (h.2.2.1), Box.call hb (h.2.2.2.1), Box.call hb (h.2.2.2.2.1), Box.call hb (h.2.2.2.2.2.1), Box.call hb (h.2.2.2.2.2.2.1), Box.call hb (h.2.2.2.2.2.2.2)⟩) (fun W W' h hb => ⟨h.1.step hb, Nat.le_trans (h.2.1) hb.size, Box.call hb (h.2.2.1), Box.call hb (h.2.2.2.1), Box.call hb (h.2.2.2.2.1), Box.call hb (h.2.2.2.2.2.1), Box.call hb (h.2.2.2.2.2.2.1), Box.call hb (h.2.2.2.2.2.2.2)⟩) (no_out (of_decide_eq_true (by kernel_rfl))) (.inl (by kernel_rfl)) (.inl (by kernel_rfl)) (fun _ h => h.2.1) (fun _ h => h.2.1) (⟨(by repeat (first | with_reducible exact hk | with_reducible exact Kept.refl _ | with_reducible refine Kept.alloc ?_ _ | with_reducible refine Kept.drew ?_ | with_reducible refine Kept.setCell ?_ (by simp only [World.size_alloc, World.size_setCell, World.size_drew]; omega) _)), (by (try simp only [World.size_alloc, World.size_setCell, World.size_drew]); omega), (by repeat (first | with_reducible assumption | with_reducible apply Box.set10 | with_reducible apply Box.set20 | with_reducible apply Box.set21 | with_reducible apply Box.set40 | with_reducible apply Box.set41 | with_reducible apply Box.set42 | with_reducible apply Box.set43 | with_reducible apply Box.set50 | with_reducible apply Box.set51 | with_reducible apply Box.set52 | with_reducible apply Box.set53 | with_reducible apply Box.set54 | with_reducible apply Box.set80 | with_reducible apply Box.set81 | with_reducible apply Box.set82 | with_reducible apply Box.set83 | with_reducible apply Box.set84 | with_reducible apply Box.set85 | with_reducible apply Box.set86 | with_reducible apply Box.set87 | with_reducible apply Box.drew | (with_reducible apply Box.newAt; (try simp only [World.size_alloc, World.size_setCell, World.size_drew]); done) | with_reducible apply Box.alloc | (with_reducible apply Box.other; case hne => ((try simp only [World.size_alloc, World.size_setCell, World.size_drew]); omega)))), (by repeat (first | with_reducible assumption | with_reducible apply Box.set10 | with_reducible apply Box.set20 | with_reducible apply Box.set21 | with_reducible apply Box.set40 | with_reducible apply Box.set41 | with_reducible apply Box.set42 | with_reducible apply Box.set43 | with_reducible apply Box.set50 | with_reducible apply Box.set51 | with_reducible apply Box.set52 | with_reducible apply Box.set53 | with_reducible apply Box.set54 | with_reducible apply Box.set80 | with_reducible apply Box.set81 | with_reducible apply Box.set82 | with_reducible apply Box.set83 | with_reducible apply Box.set84 | with_reducible apply Box.set85 | with_reducible apply Box.set86 | with_reducible apply Box.set87 | with_reducible apply Box.drew | (with_reducible apply Box.newAt; (try simp only [World.size_alloc, World.size_setCell, World.size_drew]); done) | with_reducible apply Box.alloc | (with_reducible apply Box.other; case hne => ((try simp only [World.size_alloc, World.size_setCell, World.size_drew]); omega)))), (by repeat (first | with_reducible assumption | with_reducible apply Box.set10 | with_reducible apply Box.set20 | with_reducible apply Box.set21 | with_reducible apply Box.set40 | with_reducible apply Box.set41 | with_reducible apply Box.set42 | with_reducible apply Box.set43 | with_reducible apply Box.set50 | with_reducible apply Box.set51 | with_reducible apply Box.set52 | with_reducible apply Box.set53 | with_reducible apply Box.set54 | with_reducible apply Box.set80 | with_reducible apply Box.set81 | with_reducible apply Box.set82 | with_reducible apply Box.set83 | with_reducible apply Box.set84 | with_reducible apply Box.set85 | with_reducible apply Box.set86 | with_reducible apply Box.set87 | with_reducible apply Box.drew | (with_reducible apply Box.newAt; (try simp only [World.size_alloc, World.size_setCell, World.size_drew]); done) | with_reducible apply Box.alloc | (with_reducible apply Box.other; case hne => ((try simp only [World.size_alloc, World.size_setCell, World.size_drew]); omega)))), (by repeat (first | with_reducible assumption | with_reducible apply Box.set10 | with_reducible apply Box.set20 | with_reducible apply Box.set21 | with_reducible apply Box.set40 | with_reducible apply Box.set41 | with_reducible apply Box.set42 | with_reducible apply Box.set43 | with_reducible apply Box.set50 | with_reducible apply Box.set51 | with_reducible apply Box.set52 | with_reducible apply Box.set53 | with_reducible apply Box.set54 | with_reducible apply Box.set80 | with_reducible apply Box.set81 | with_reducible apply Box.set82 | with_reducible apply Box.set83 | with_reducible apply Box.set84 | with_reducible apply Box.set85 | with_reducible apply Box.set86 | with_reducible apply Box.set87 | with_reducible apply Box.drew | (with_reducible apply Box.newAt; (try simp only [World.size_alloc, World.size_setCell, World.size_drew]); done) | with_reducible apply Box.alloc | (with_reducible apply Box.other; case hne => ((try simp only [World.size_alloc, World.size_setCell, World.size_drew]); omega)))), (by repeat (first | with_reducible assumption | with_reducible apply Box.set10 | with_reducible apply Box.set20 | with_reducible apply Box.set21 | with_reducible apply Box.set40 | with_reducible apply Box.set41 | with_reducible apply Box.set42 | with_reducible apply Box.set43 | with_reducible apply Box.set50 | with_reducible apply Box.set51 | with_reducible apply Box.set52 | with_reducible apply Box.set53 | with_reducible apply Box.set54 | with_reducible apply Box.set80 | with_reducible apply Box.set81 | with_reducible apply Box.set82 | with_reducible apply Box.set83 | with_reducible apply Box.set84 | with_reducible apply Box.set85 | with_reducible apply Box.set86 | with_reducible apply Box.set87 | with_reducible apply Box.drew | (with_reducible apply Box.newAt; (try simp only [World.size_alloc, World.size_setCell, World.size_drew]); done) | with_reducible apply Box.alloc | (with_reducible apply Box.other; case hne => ((try simp only [World.size_alloc, World.size_setCell, World.size_drew]); omega)))), (by repeat (first | with_reducible assumption | with_reducible apply Box.set10 | with_reducible apply Box.set20 | with_reducible apply Box.set21 | with_reducible apply Box.set40 | with_reducible apply Box.set41 | with_reducible apply Box.set42 | with_reducible apply Box.set43 | with_reducible apply Box.set50 | with_reducible apply Box.set51 | with_reducible apply Box.set52 | with_reducible apply Box.set53 | with_reducible apply Box.set54 | with_reducible apply Box.set80 | with_reducible apply Box.set81 | with_reducible apply Box.set82 | with_reducible apply Box.set83 | with_reducible apply Box.set84 | with_reducible apply Box.set85 | with_reducible apply Box.set86 | with_reducible apply Box.set87 | with_reducible apply Box.drew | (with_reducible apply Box.newAt; (try simp only [World.size_alloc, World.size_setCell, World.size_drew]); done) | with_reducible apply Box.alloc | (with_reducible apply Box.other; case hne => ((try simp only [World.size_alloc, World.size_setCell, World.size_drew]); omega))))⟩) ?_
      clear hk
      clear X1 X1l1 X1l2 X1l3 X1f X10 X11 X12 X13 X14
      clear X2 X2l1 X2l2 X2l3 X2f X20 X21 X22 X23 X24
      clear X3 X3l1 X3l2 X3l3 X3f X30 X31 X32 X33 X34
      clear Bv1_12 Bv1_12l1 Bv1_12l2 Bv1_12l3 Bv1_12f Bv1_120 Bv1_121 Bv1_122 Bv1_123
      clear Bv2_13 Bv2_13l1 Bv2_13l2 Bv2_13l3 Bv2_13f Bv2_130 Bv2_131 Bv2_132 Bv2_133
      intro ρ
      simp only [List.take_succ_cons, List.take_zero, List.drop_succ_cons, List.drop_zero]
      refine ⟨?_, ?_⟩
      · as_aux_lemma =>
        intro y_ hS_ hO_ hD
        have Q := ((hS_ (by rfl)).2.2.1).cell
        have q0 := Q 0 _ rfl
        have q1 := Q 1 _ rfl
        have q2 := Q 2 _ rfl
        have q3 := Q 3 _ rfl
        have q4 := Q 4 _ rfl
        clear Q hS_ hO_ hD
        refine s_gen (V := termV x A) [.pointer (some ⟨w.heap.size, 0, none⟩)] (by kernel_rfl) (by kernel_rfl) (by kernel_rfl) ?_
        intro r_ hr_
        have o0_ : r_ (.tmp 3) = .pointer (some ⟨w.heap.size, 0, none⟩) := op_at hr_ 0 (by kernel_rfl) (by kernel_rfl)
        clear hr_
        go_simp; first | done | with_reducible rfl
      simp only [Act.put, planVG, List.setIfInBounds_toArray, List.set_cons_zero, List.set_cons_succ, List.getElem?_cons_zero, List.getElem?_cons_succ]
      refine ⟨?_, ?_⟩
      · as_aux_lemma =>
        intro y_ hS_ hO_ hD
        have Q := ((hS_ (by rfl)).2.2.2.1).cell
        have q0 := Q 0 _ rfl
        have q1 := Q 1 _ rfl
        have q2 := Q 2 _ rfl
        have q3 := Q 3 _ rfl
        have q4 := Q 4 _ rfl
        clear Q hS_ hO_ hD
        refine s_gen (V := termV y B) [.pointer (some ⟨w.heap.size + 1, 0, none⟩)] (by kernel_rfl) (by kernel_rfl) (by kernel_rfl) ?_
        intro r_ hr_
        have o0_ : r_ (.tmp 4) = .pointer (some ⟨w.heap.size + 1, 0, none⟩) := op_at hr_ 0 (by kernel_rfl) (by kernel_rfl)
        clear hr_
        go_simp; first | done | with_reducible rfl
      simp only [Act.put, planVG, List.setIfInBounds_toArray, List.set_cons_zero, List.set_cons_succ, List.getElem?_cons_zero, List.getElem?_cons_succ]
      refine ⟨?_, ?_⟩
      · as_aux_lemma =>
        intro y_ hS_ hO_ hD
        try clear hS
        clear hS_ hO_ hD
        refine s_gcall (V := termV l S) [.func (.func 47) #[] #[], termV x A, termV y B] ?_ ?_ (by kernel_rfl) (by kernel_rfl) (by kernel_rfl) ?_ ?_
        rotate_left 2
        · intro r_ hr_
          have o0_ : r_ (.func 47) = .func (.func 47) #[] #[] := op_at hr_ 0 (by kernel_rfl) (by kernel_rfl)
          have o1_ : r_ (.tmp 45) = termV x A := op_at hr_ 1 (by kernel_rfl) (by kernel_rfl)
          have o2_ : r_ (.tmp 46) = termV y B := op_at hr_ 2 (by kernel_rfl) (by kernel_rfl)
          clear hr_
          go_simp; first | done | with_reducible rfl | (constructor <;> with_reducible rfl)
        · refine H3.out _
      simp only [Act.put, planVG, List.setIfInBounds_toArray, List.set_cons_zero, List.set_cons_succ, List.getElem?_cons_zero, List.getElem?_cons_succ]
      refine ⟨?_, ?_⟩
      · as_aux_lemma =>
        intro y_ hS_ hO_ hD
        clear hS_ hO_ hD
        refine s_gen (V := .int .i64 (l)) [.int .i64 (l)] (by kernel_rfl) (by kernel_rfl) (by kernel_rfl) ?_
        intro r_ hr_
        have o0_ : r_ (.tmp 7) = .int .i64 (l) := op_at hr_ 0 (by kernel_rfl) (by kernel_rfl)
        clear hr_
        go_simp; first | done | with_reducible rfl | omega
      simp only [Act.put, planVG, List.setIfInBounds_toArray, List.set_cons_zero, List.set_cons_succ, List.getElem?_cons_zero, List.getElem?_cons_succ]
      refine ⟨?_, ?_⟩
      · as_aux_lemma =>
        intro y_ hS_ hO_ hD
        have Q := ((hS_ (by rfl)).2.2.2.2.2.1).cell
        have q0 := Q 0 _ rfl
        have q1 := Q 1 _ rfl
        have q2 := Q 2 _ rfl
        have q3 := Q 3 _ rfl
        clear Q hS_ hO_ hD
        refine s_gen (V := wideV S) [.pointer (some ⟨v1_12, 0, none⟩)] (by kernel_rfl) (by kernel_rfl) (by kernel_rfl) ?_
        intro r_ hr_
        have o0_ : r_ (.tmp 8) = .pointer (some ⟨v1_12, 0, none⟩) := op_at hr_ 0 (by kernel_rfl) (by kernel_rfl)
        clear hr_
        go_simp; first | done | with_reducible rfl
      simp only [Act.put, planVG, List.setIfInBounds_toArray, List.set_cons_zero, List.set_cons_succ, List.getElem?_cons_zero, List.getElem?_cons_succ]
      refine ⟨?_, ?_⟩
      · as_aux_lemma =>
        intro y_ hS_ hO_ hD
        clear hS_ hO_ hD
        refine s_gen (V := termV l S) [.int .i64 (l), wideV S] (by kernel_rfl) (by kernel_rfl) (by kernel_rfl) ?_
        intro r_ hr_
        have o0_ : r_ (.tmp 48) = .int .i64 (l) := op_at hr_ 0 (by kernel_rfl) (by kernel_rfl)
        have o1_ : r_ (.tmp 49) = wideV S := op_at hr_ 1 (by kernel_rfl) (by kernel_rfl)
        clear hr_
        go_simp; first | done | with_reducible rfl | omega
      simp only [Act.put, planVG, List.setIfInBounds_toArray, List.set_cons_zero, List.set_cons_succ, List.getElem?_cons_zero, List.getElem?_cons_succ]
      refine ⟨?_, ?_⟩
      · as_aux_lemma =>
        intro y_ hS_ hO_ hD
        clear hS_ hO_ hD
        refine s_gen (V := .bool true) [termV l S, termV l S] (by kernel_rfl) (by kernel_rfl) (by kernel_rfl) ?_
        intro r_ hr_
        have o0_ : r_ (.tmp 47) = termV l S := op_at hr_ 0 (by kernel_rfl) (by kernel_rfl)
        have o1_ : r_ (.tmp 50) = termV l S := op_at hr_ 1 (by kernel_rfl) (by kernel_rfl)
        clear hr_
        go_simp; first | done | with_reducible rfl | omega
      simp only [Act.put, planVG, List.setIfInBounds_toArray, List.set_cons_zero, List.set_cons_succ, List.getElem?_cons_zero, List.getElem?_cons_succ]
      refine ⟨?_, ?_⟩
      · as_aux_lemma =>
        intro y_ hS_ hO_ hD
        clear hS_ hO_ hD
        refine s_gen (V := .bool true) [.bool true] (by kernel_rfl) (by kernel_rfl) (by kernel_rfl) ?_
        intro r_ hr_
        have o0_ : r_ (.tmp 51) = .bool true := op_at hr_ 0 (by kernel_rfl) (by kernel_rfl)
        clear hr_
        go_simp; first | done | with_reducible rfl | omega
      simp only [Act.put, planVG, List.setIfInBounds_toArray, List.set_cons_zero, List.set_cons_succ, List.getElem?_cons_zero, List.getElem?_cons_succ]
      refine ⟨?_, ?_⟩
      · as_aux_lemma =>
        intro y_ hS_ hO_ hD
        have Q := ((hS_ (by rfl)).2.2.2.2.2.2.2).cell
        have q0 := Q 0 _ rfl
        have q1 := Q 1 _ rfl
        have q2 := Q 2 _ rfl
        have q3 := Q 3 _ rfl
        have q4 := Q 4 _ rfl
        clear Q hS_ hO_ hD
        refine s_gen (V := termV m T) [.pointer (some ⟨w3.heap.size, 0, none⟩)] (by kernel_rfl) (by kernel_rfl) (by kernel_rfl) ?_
        intro r_ hr_
        have o0_ : r_ (.tmp 12) = .pointer (some ⟨w3.heap.size, 0, none⟩) := op_at hr_ 0 (by kernel_rfl) (by kernel_rfl)
        clear hr_
        go_simp; first | done | with_reducible rfl
      simp only [Act.put, planVG, List.setIfInBounds_toArray, List.set_cons_zero, List.set_cons_succ, List.getElem?_cons_zero, List.getElem?_cons_succ]
      refine ⟨?_, ?_⟩
      · as_aux_lemma =>
        intro y_ hS_ hO_ hD
        clear hS_ hO_ hD
        refine s_gen (V := .int .i64 (m)) [.int .i64 (m)] (by kernel_rfl) (by kernel_rfl) (by kernel_rfl) ?_
        intro r_ hr_
        have o0_ : r_ (.tmp 9) = .int .i64 (m) := op_at hr_ 0 (by kernel_rfl) (by kernel_rfl)
        clear hr_
        go_simp; first | done | with_reducible rfl | omega
      simp only [Act.put, planVG, List.setIfInBounds_toArray, List.set_cons_zero, List.set_cons_succ, List.getElem?_cons_zero, List.getElem?_cons_succ]
      refine ⟨?_, ?_⟩
      · as_aux_lemma =>
        intro y_ hS_ hO_ hD
        have Q := ((hS_ (by rfl)).2.2.2.2.2.2.1).cell
        have q0 := Q 0 _ rfl
        have q1 := Q 1 _ rfl
        have q2 := Q 2 _ rfl
        have q3 := Q 3 _ rfl
        clear Q hS_ hO_ hD
        refine s_gen (V := wideV T) [.pointer (some ⟨v2_13, 0, none⟩)] (by kernel_rfl) (by kernel_rfl) (by kernel_rfl) ?_
        intro r_ hr_
        have o0_ : r_ (.tmp 10) = .pointer (some ⟨v2_13, 0, none⟩) := op_at hr_ 0 (by kernel_rfl) (by kernel_rfl)
        clear hr_
        go_simp; first | done | with_reducible rfl
      simp only [Act.put, planVG, List.setIfInBounds_toArray, List.set_cons_zero, List.set_cons_succ, List.getElem?_cons_zero, List.getElem?_cons_succ]
      refine ⟨?_, ?_⟩
      · as_aux_lemma =>
        intro y_ hS_ hO_ hD
        clear hS_ hO_ hD
        refine s_gen (V := termV m T) [.int .i64 (m), wideV T] (by kernel_rfl) (by kernel_rfl) (by kernel_rfl) ?_
        intro r_ hr_
        have o0_ : r_ (.tmp 54) = .int .i64 (m) := op_at hr_ 0 (by kernel_rfl) (by kernel_rfl)
        have o1_ : r_ (.tmp 55) = wideV T := op_at hr_ 1 (by kernel_rfl) (by kernel_rfl)
        clear hr_
        go_simp; first | done | with_reducible rfl | omega
      simp only [Act.put, planVG, List.setIfInBounds_toArray, List.set_cons_zero, List.set_cons_succ, List.getElem?_cons_zero, List.getElem?_cons_succ]
      refine ⟨?_, ?_⟩
      · as_aux_lemma =>
        intro y_ hS_ hO_ hD
        clear hS_ hO_ hD
        refine s_gen (V := .bool true) [termV m T, termV m T] (by kernel_rfl) (by kernel_rfl) (by kernel_rfl) ?_
        intro r_ hr_
        have o0_ : r_ (.tmp 53) = termV m T := op_at hr_ 0 (by kernel_rfl) (by kernel_rfl)
        have o1_ : r_ (.tmp 56) = termV m T := op_at hr_ 1 (by kernel_rfl) (by kernel_rfl)
        clear hr_
        go_simp; first | done | with_reducible rfl | omega
      simp only [Act.put, planVG, List.setIfInBounds_toArray, List.set_cons_zero, List.set_cons_succ, List.getElem?_cons_zero, List.getElem?_cons_succ]
      refine ⟨?_, ?_⟩
      · as_aux_lemma =>
        intro y_ hS_ hO_ hD
        clear hS_ hO_ hD
        refine s_gen (V := .bool true) [.bool true, .bool true, .bool false] (by kernel_rfl) (by kernel_rfl) (by kernel_rfl) ?_
        intro r_ hr_
        have o0_ : r_ (.tmp 52) = .bool true := op_at hr_ 0 (by kernel_rfl) (by kernel_rfl)
        have o1_ : r_ (.tmp 57) = .bool true := op_at hr_ 1 (by kernel_rfl) (by kernel_rfl)
        have o2_ : r_ (.const (.bool false)) = .bool false := op_at hr_ 2 (by kernel_rfl) (by kernel_rfl)
        clear hr_
        go_simp; first | done | with_reducible rfl | omega
      simp only [Act.put, planVG, List.setIfInBounds_toArray, List.set_cons_zero, List.set_cons_succ, List.getElem?_cons_zero, List.getElem?_cons_succ]
      refine ⟨?_, ?_⟩
      · as_aux_lemma =>
        intro y_ hS_ hO_ hD
        clear hS_ hO_ hD
        refine s_gen (V := .bool true) [.bool true] (by kernel_rfl) (by kernel_rfl) (by kernel_rfl) ?_
        intro r_ hr_
        have o0_ : r_ (.tmp 58) = .bool true := op_at hr_ 0 (by kernel_rfl) (by kernel_rfl)
        clear hr_
        go_simp; first | done | with_reducible rfl | omega
      simp only [Act.put, planVG, List.setIfInBounds_toArray, List.set_cons_zero, List.set_cons_succ, List.getElem?_cons_zero, List.getElem?_cons_succ]
      refine ⟨?_, ?_⟩
      · as_aux_lemma =>
        intro y_ hS_ hO_ hD
        clear hS_ hO_ hD
        refine s_gen (V := .bool true) [.bool true] (by kernel_rfl) (by kernel_rfl) (by kernel_rfl) ?_
        intro r_ hr_
        have o0_ : r_ (.tmp 13) = .bool true := op_at hr_ 0 (by kernel_rfl) (by kernel_rfl)
        clear hr_
        go_simp; first | done | with_reducible rfl | omega
      simp only [Act.put, planVG, List.setIfInBounds_toArray, List.set_cons_zero, List.set_cons_succ, List.getElem?_cons_zero, List.getElem?_cons_succ]
      refine ⟨?_, ?_⟩
      · as_aux_lemma =>
        intro y_ hS_ hO_ hD
        clear hS_ hO_ hD
        refine s_gen (V := .bool true) [.bool true] (by kernel_rfl) (by kernel_rfl) (by kernel_rfl) ?_
        intro r_ hr_
        have o0_ : r_ (.tmp 11) = .bool true := op_at hr_ 0 (by kernel_rfl) (by kernel_rfl)
        clear hr_
        go_simp; first | done | with_reducible rfl | omega
      simp only [Act.put, planVG, List.setIfInBounds_toArray, List.set_cons_zero, List.set_cons_succ, List.getElem?_cons_zero, List.getElem?_cons_succ]
      refine ⟨?_, ?_⟩
      · as_aux_lemma =>
        intro y_ hS_ hO_ hD
        clear hS_ hO_ hD
        refine s_gen (V := .bool true) [.bool true, .bool true] (by kernel_rfl) (by kernel_rfl) (by kernel_rfl) ?_
        intro r_ hr_
        have o0_ : r_ (.tmp 60) = .bool true := op_at hr_ 0 (by kernel_rfl) (by kernel_rfl)
        have o1_ : r_ (.tmp 61) = .bool true := op_at hr_ 1 (by kernel_rfl) (by kernel_rfl)
        clear hr_
        go_simp; first | done | with_reducible rfl | omega
      simp only [Act.put, planVG, List.setIfInBounds_toArray, List.set_cons_zero, List.set_cons_succ, List.getElem?_cons_zero, List.getElem?_cons_succ]
      refine ⟨?_, ?_⟩
      · as_aux_lemma =>
        intro y_ hS_ hO_ hD
        clear hS_ hO_ hD
        refine s_gen (V := .bool true) [.bool true, .bool true, .bool false] (by kernel_rfl) (by kernel_rfl) (by kernel_rfl) ?_
        intro r_ hr_
        have o0_ : r_ (.tmp 59) = .bool true := op_at hr_ 0 (by kernel_rfl) (by kernel_rfl)
        have o1_ : r_ (.tmp 62) = .bool true := op_at hr_ 1 (by kernel_rfl) (by kernel_rfl)
        have o2_ : r_ (.const (.bool false)) = .bool false := op_at hr_ 2 (by kernel_rfl) (by kernel_rfl)
        clear hr_
        go_simp; first | done | with_reducible rfl | omega
      simp only [Act.put, planVG, List.setIfInBounds_toArray, List.set_cons_zero, List.set_cons_succ, List.getElem?_cons_zero, List.getElem?_cons_succ]
      refine ⟨?_, ?_⟩
      · as_aux_lemma =>
        intro y_ hS_ hO_ hD
        clear hS_ hO_ hD
        refine s_gen (V := .bool true) [.bool true] (by kernel_rfl) (by kernel_rfl) (by kernel_rfl) ?_
        intro r_ hr_
        have o0_ : r_ (.tmp 63) = .bool true := op_at hr_ 0 (by kernel_rfl) (by kernel_rfl)
        clear hr_
        go_simp; first | done | with_reducible rfl | omega
      simp only [Act.put, planVG, List.setIfInBounds_toArray, List.set_cons_zero, List.set_cons_succ, List.getElem?_cons_zero, List.getElem?_cons_succ]
      refine ⟨?_, ?_⟩
      · as_aux_lemma =>
        intro y_ hS_ hO_ hD
        have Q := ((hS_ (by rfl)).2.2.1).cell
        have q0 := Q 0 _ rfl
        have q1 := Q 1 _ rfl
        have q2 := Q 2 _ rfl
        have q3 := Q 3 _ rfl
        have q4 := Q 4 _ rfl
        clear Q hS_ hO_ hD
        refine s_gen (V := termV x A) [.pointer (some ⟨w.heap.size, 0, none⟩)] (by kernel_rfl) (by kernel_rfl) (by kernel_rfl) ?_
        intro r_ hr_
        have o0_ : r_ (.tmp 3) = .pointer (some ⟨w.heap.size, 0, none⟩) := op_at hr_ 0 (by kernel_rfl) (by kernel_rfl)
        clear hr_
        go_simp; first | done | with_reducible rfl
      simp only [Act.put, planVG, List.setIfInBounds_toArray, List.set_cons_zero, List.set_cons_succ, List.getElem?_cons_zero, List.getElem?_cons_succ]
      refine ⟨?_, ?_⟩
      · as_aux_lemma =>
        intro y_ hS_ hO_ hD
        have Q := ((hS_ (by rfl)).2.2.2.1).cell
        have q0 := Q 0 _ rfl
        have q1 := Q 1 _ rfl
        have q2 := Q 2 _ rfl
        have q3 := Q 3 _ rfl
        have q4 := Q 4 _ rfl
        clear Q hS_ hO_ hD
        refine s_gen (V := termV y B) [.pointer (some ⟨w.heap.size + 1, 0, none⟩)] (by kernel_rfl) (by kernel_rfl) (by kernel_rfl) ?_
        intro r_ hr_
        have o0_ : r_ (.tmp 4) = .pointer (some ⟨w.heap.size + 1, 0, none⟩) := op_at hr_ 0 (by kernel_rfl) (by kernel_rfl)
        clear hr_
        go_simp; first | done | with_reducible rfl
      simp only [Act.put, planVG, List.setIfInBounds_toArray, List.set_cons_zero, List.set_cons_succ, List.getElem?_cons_zero, List.getElem?_cons_succ]
      refine ⟨?_, ?_⟩
      · as_aux_lemma =>
        intro y_ hS_ hO_ hD
        try clear hS
        clear hS_ hO_ hD
        refine s_gcall (V := .int .i64 (c)) [.func (.func 51) #[] #[], termV x A, termV y B] ?_ ?_ (by kernel_rfl) (by kernel_rfl) (by kernel_rfl) ?_ ?_
        rotate_left 2
        · intro r_ hr_
          have o0_ : r_ (.func 51) = .func (.func 51) #[] #[] := op_at hr_ 0 (by kernel_rfl) (by kernel_rfl)
          have o1_ : r_ (.tmp 65) = termV x A := op_at hr_ 1 (by kernel_rfl) (by kernel_rfl)
          have o2_ : r_ (.tmp 66) = termV y B := op_at hr_ 2 (by kernel_rfl) (by kernel_rfl)
          clear hr_
          go_simp; first | done | with_reducible rfl | (constructor <;> with_reducible rfl)
        · refine H6.out _
      simp only [Act.put, planVG, List.setIfInBounds_toArray, List.set_cons_zero, List.set_cons_succ, List.getElem?_cons_zero, List.getElem?_cons_succ]
      refine ⟨?_, ?_⟩
      · as_aux_lemma =>
        intro y_ hS_ hO_ hD
        clear hS_ hO_ hD
        refine s_gen (V := .pointer (some ⟨w.heap.size, 0, none⟩)) [.pointer (some ⟨w.heap.size, 0, none⟩)] (by kernel_rfl) (by kernel_rfl) (by kernel_rfl) ?_
        intro r_ hr_
        have o0_ : r_ (.tmp 3) = .pointer (some ⟨w.heap.size, 0, none⟩) := op_at hr_ 0 (by kernel_rfl) (by kernel_rfl)
        clear hr_
        go_simp; first | done | with_reducible rfl | omega
      simp only [Act.put, planVG, List.setIfInBounds_toArray, List.set_cons_zero, List.set_cons_succ, List.getElem?_cons_zero, List.getElem?_cons_succ]
      refine ⟨?_, ?_⟩
      · as_aux_lemma =>
        intro y_ hS_ hO_ hD
        have Q := ((hS_ (by rfl)).2.2.1).cell
        have q0 := Q 0 _ rfl
        have q1 := Q 1 _ rfl
        have q2 := Q 2 _ rfl
        have q3 := Q 3 _ rfl
        have q4 := Q 4 _ rfl
        clear Q hS_ hO_ hD
        refine s_gen (V := .int .i64 (x)) [.pointer (some ⟨w.heap.size, 0, none⟩)] (by kernel_rfl) (by kernel_rfl) (by kernel_rfl) ?_
        intro r_ hr_
        have o0_ : r_ (.tmp 68) = .pointer (some ⟨w.heap.size, 0, none⟩) := op_at hr_ 0 (by kernel_rfl) (by kernel_rfl)
        clear hr_
        go_simp; first | done | with_reducible rfl
      simp only [Act.put, planVG, List.setIfInBounds_toArray, List.set_cons_zero, List.set_cons_succ, List.getElem?_cons_zero, List.getElem?_cons_succ]
      refine ⟨?_, ?_⟩
      · as_aux_lemma =>
        intro y_ hS_ hO_ hD
        clear hS_ hO_ hD
        refine s_gen (V := .pointer (some ⟨w.heap.size, 1, none⟩)) [.pointer (some ⟨w.heap.size, 0, none⟩)] (by kernel_rfl) (by kernel_rfl) (by kernel_rfl) ?_
        intro r_ hr_
        have o0_ : r_ (.tmp 3) = .pointer (some ⟨w.heap.size, 0, none⟩) := op_at hr_ 0 (by kernel_rfl) (by kernel_rfl)
        clear hr_
        go_simp; first | done | with_reducible rfl | omega
      simp only [Act.put, planVG, List.setIfInBounds_toArray, List.set_cons_zero, List.set_cons_succ, List.getElem?_cons_zero, List.getElem?_cons_succ]
      refine ⟨?_, ?_⟩
      · as_aux_lemma =>
        intro y_ hS_ hO_ hD
        have Q := ((hS_ (by rfl)).2.2.1).cell
        have q0 := Q 0 _ rfl
        have q1 := Q 1 _ rfl
        have q2 := Q 2 _ rfl
        have q3 := Q 3 _ rfl
        have q4 := Q 4 _ rfl
        clear Q hS_ hO_ hD
        refine s_gen (V := wideV A) [.pointer (some ⟨w.heap.size, 1, none⟩)] (by kernel_rfl) (by kernel_rfl) (by kernel_rfl) ?_
        intro r_ hr_
        have o0_ : r_ (.tmp 70) = .pointer (some ⟨w.heap.size, 1, none⟩) := op_at hr_ 0 (by kernel_rfl) (by kernel_rfl)
        clear hr_
        go_simp; first | done | with_reducible rfl
      simp only [Act.put, planVG, List.setIfInBounds_toArray, List.set_cons_zero, List.set_cons_succ, List.getElem?_cons_zero, List.getElem?_cons_succ]
      refine ⟨?_, ?_⟩
      · as_aux_lemma =>
        intro y_ hS_ hO_ hD
        clear hS_ hO_ hD
        refine s_gen (V := .pointer (some ⟨w.heap.size + 1, 0, none⟩)) [.pointer (some ⟨w.heap.size + 1, 0, none⟩)] (by kernel_rfl) (by kernel_rfl) (by kernel_rfl) ?_
        intro r_ hr_
        have o0_ : r_ (.tmp 4) = .pointer (some ⟨w.heap.size + 1, 0, none⟩) := op_at hr_ 0 (by kernel_rfl) (by kernel_rfl)
        clear hr_
        go_simp; first | done | with_reducible rfl | omega
      simp only [Act.put, planVG, List.setIfInBounds_toArray, List.set_cons_zero, List.set_cons_succ, List.getElem?_cons_zero, List.getElem?_cons_succ]
      refine ⟨?_, ?_⟩
      · as_aux_lemma =>
        intro y_ hS_ hO_ hD
        have Q := ((hS_ (by rfl)).2.2.2.1).cell
        have q0 := Q 0 _ rfl
        have q1 := Q 1 _ rfl
        have q2 := Q 2 _ rfl
        have q3 := Q 3 _ rfl
        have q4 := Q 4 _ rfl
        clear Q hS_ hO_ hD
        refine s_gen (V := .int .i64 (y)) [.pointer (some ⟨w.heap.size + 1, 0, none⟩)] (by kernel_rfl) (by kernel_rfl) (by kernel_rfl) ?_
        intro r_ hr_
        have o0_ : r_ (.tmp 72) = .pointer (some ⟨w.heap.size + 1, 0, none⟩) := op_at hr_ 0 (by kernel_rfl) (by kernel_rfl)
        clear hr_
        go_simp; first | done | with_reducible rfl
      simp only [Act.put, planVG, List.setIfInBounds_toArray, List.set_cons_zero, List.set_cons_succ, List.getElem?_cons_zero, List.getElem?_cons_succ]
      refine ⟨?_, ?_⟩
      · as_aux_lemma =>
        intro y_ hS_ hO_ hD
        clear hS_ hO_ hD
        refine s_gen (V := .pointer (some ⟨w.heap.size + 1, 1, none⟩)) [.pointer (some ⟨w.heap.size + 1, 0, none⟩)] (by kernel_rfl) (by kernel_rfl) (by kernel_rfl) ?_
        intro r_ hr_
        have o0_ : r_ (.tmp 4) = .pointer (some ⟨w.heap.size + 1, 0, none⟩) := op_at hr_ 0 (by kernel_rfl) (by kernel_rfl)
        clear hr_
        go_simp; first | done | with_reducible rfl | omega
      simp only [Act.put, planVG, List.setIfInBounds_toArray, List.set_cons_zero, List.set_cons_succ, List.getElem?_cons_zero, List.getElem?_cons_succ]
      refine ⟨?_, ?_⟩
      · as_aux_lemma =>
        intro y_ hS_ hO_ hD
        have Q := ((hS_ (by rfl)).2.2.2.1).cell
        have q0 := Q 0 _ rfl
        have q1 := Q 1 _ rfl
        have q2 := Q 2 _ rfl
        have q3 := Q 3 _ rfl
        have q4 := Q 4 _ rfl
        clear Q hS_ hO_ hD
        refine s_gen (V := wideV B) [.pointer (some ⟨w.heap.size + 1, 1, none⟩)] (by kernel_rfl) (by kernel_rfl) (by kernel_rfl) ?_
        intro r_ hr_
        have o0_ : r_ (.tmp 74) = .pointer (some ⟨w.heap.size + 1, 1, none⟩) := op_at hr_ 0 (by kernel_rfl) (by kernel_rfl)
        clear hr_
        go_simp; first | done | with_reducible rfl
      simp only [Act.put, planVG, List.setIfInBounds_toArray, List.set_cons_zero, List.set_cons_succ, List.getElem?_cons_zero, List.getElem?_cons_succ]
      refine ⟨?_, ?_⟩
      · as_aux_lemma =>
        intro y_ hS_ hO_ hD
        try clear hS
        clear hS_ hO_ hD
        refine s_gcall (V := .int .i64 (c)) [.func (.func 54) #[] #[], .int .i64 (x), wideV A, .int .i64 (y), wideV B] ?_ ?_ (by kernel_rfl) (by kernel_rfl) (by kernel_rfl) ?_ ?_
        rotate_left 2
        · intro r_ hr_
          have o0_ : r_ (.func 54) = .func (.func 54) #[] #[] := op_at hr_ 0 (by kernel_rfl) (by kernel_rfl)
          have o1_ : r_ (.tmp 69) = .int .i64 (x) := op_at hr_ 1 (by kernel_rfl) (by kernel_rfl)
          have o2_ : r_ (.tmp 71) = wideV A := op_at hr_ 2 (by kernel_rfl) (by kernel_rfl)
          have o3_ : r_ (.tmp 73) = .int .i64 (y) := op_at hr_ 3 (by kernel_rfl) (by kernel_rfl)
          have o4_ : r_ (.tmp 75) = wideV B := op_at hr_ 4 (by kernel_rfl) (by kernel_rfl)
          clear hr_
          go_simp; first | done | with_reducible rfl | (constructor <;> with_reducible rfl)
        · refine H5.out _
      simp only [Act.put, planVG, List.setIfInBounds_toArray, List.set_cons_zero, List.set_cons_succ, List.getElem?_cons_zero, List.getElem?_cons_succ]
      refine ⟨?_, ?_⟩
      · as_aux_lemma =>
        intro y_ hS_ hO_ hD
        clear hS_ hO_ hD
        refine s_gen (V := .bool true) [.int .i64 (c), .int .i64 (c)] (by kernel_rfl) (by kernel_rfl) (by kernel_rfl) ?_
        intro r_ hr_
        have o0_ : r_ (.tmp 67) = .int .i64 (c) := op_at hr_ 0 (by kernel_rfl) (by kernel_rfl)
        have o1_ : r_ (.tmp 76) = .int .i64 (c) := op_at hr_ 1 (by kernel_rfl) (by kernel_rfl)
        clear hr_
        go_simp; first | done | with_reducible rfl | omega
      simp only [Act.put, planVG, List.setIfInBounds_toArray, List.set_cons_zero, List.set_cons_succ, List.getElem?_cons_zero, List.getElem?_cons_succ]
      refine ⟨?_, ?_⟩
      · as_aux_lemma =>
        intro y_ hS_ hO_ hD
        clear hS_ hO_ hD
        refine s_gen (V := .bool true) [.bool true, .bool true, .bool false] (by kernel_rfl) (by kernel_rfl) (by kernel_rfl) ?_
        intro r_ hr_
        have o0_ : r_ (.tmp 64) = .bool true := op_at hr_ 0 (by kernel_rfl) (by kernel_rfl)
        have o1_ : r_ (.tmp 77) = .bool true := op_at hr_ 1 (by kernel_rfl) (by kernel_rfl)
        have o2_ : r_ (.const (.bool false)) = .bool false := op_at hr_ 2 (by kernel_rfl) (by kernel_rfl)
        clear hr_
        go_simp; first | done | with_reducible rfl | omega
      simp only [Act.put, planVG, List.setIfInBounds_toArray, List.set_cons_zero, List.set_cons_succ, List.getElem?_cons_zero, List.getElem?_cons_succ]
      refine ⟨?_, ?_⟩
      · as_aux_lemma =>
        intro y_ hS_ hO_ hD
        clear hS_ hO_ hD
        refine s_gen (V := .bool true) [.bool true] (by kernel_rfl) (by kernel_rfl) (by kernel_rfl) ?_
        intro r_ hr_
        have o0_ : r_ (.tmp 78) = .bool true := op_at hr_ 0 (by kernel_rfl) (by kernel_rfl)
        clear hr_
        go_simp; first | done | with_reducible rfl | omega
      simp only [Act.put, planVG, List.setIfInBounds_toArray, List.set_cons_zero, List.set_cons_succ, List.getElem?_cons_zero, List.getElem?_cons_succ]
      refine ⟨?_, ?_⟩
      · as_aux_lemma =>
        intro y_ hS_ hO_ hD
        have Q := ((hS_ (by rfl)).2.2.2.2.1).cell
        have q0 := Q 0 _ rfl
        have q1 := Q 1 _ rfl
        have q2 := Q 2 _ rfl
        have q3 := Q 3 _ rfl
        have q4 := Q 4 _ rfl
        clear Q hS_ hO_ hD
        refine s_gen (V := .agg #[.bool (ng), .int .u8 (cl), .int .i64 (ex), .int .u64 (limb 1 N), .int .u64 (limb 0 N)]) [.pointer (some ⟨w.heap.size + 1 + 1, 0, none⟩)] (by kernel_rfl) (by kernel_rfl) (by kernel_rfl) ?_
        intro r_ hr_
        have o0_ : r_ (.tmp 5) = .pointer (some ⟨w.heap.size + 1 + 1, 0, none⟩) := op_at hr_ 0 (by kernel_rfl) (by kernel_rfl)
        clear hr_
        go_simp; first | done | with_reducible rfl
      simp only [Act.put, planVG, List.setIfInBounds_toArray, List.set_cons_zero, List.set_cons_succ, List.getElem?_cons_zero, List.getElem?_cons_succ]
      refine ⟨?_, ?_⟩
      · as_aux_lemma =>
        intro y_ hS_ hO_ hD
        try clear hS
        clear hS_ hO_ hD
        refine s_gcall (V := termV ex J) [.func (.func 55) #[] #[], .agg #[.bool (ng), .int .u8 (cl), .int .i64 (ex), .int .u64 (limb 1 N), .int .u64 (limb 0 N)]] ?_ ?_ (by kernel_rfl) (by kernel_rfl) (by kernel_rfl) ?_ ?_
        rotate_left 2
        · intro r_ hr_
          have o0_ : r_ (.func 55) = .func (.func 55) #[] #[] := op_at hr_ 0 (by kernel_rfl) (by kernel_rfl)
          have o1_ : r_ (.tmp 80) = .agg #[.bool (ng), .int .u8 (cl), .int .i64 (ex), .int .u64 (limb 1 N), .int .u64 (limb 0 N)] := op_at hr_ 1 (by kernel_rfl) (by kernel_rfl)
          clear hr_
          go_simp; first | done | with_reducible rfl | (constructor <;> with_reducible rfl)
        · refine H8.out _
      simp only [Act.put, planVG, List.setIfInBounds_toArray, List.set_cons_zero, List.set_cons_succ, List.getElem?_cons_zero, List.getElem?_cons_succ]
      refine ⟨?_, ?_⟩
      · as_aux_lemma =>
        intro y_ hS_ hO_ hD
        clear hS_ hO_ hD
        refine s_gen (V := .pointer (some ⟨w.heap.size + 1 + 1, 2, none⟩)) [.pointer (some ⟨w.heap.size + 1 + 1, 0, none⟩)] (by kernel_rfl) (by kernel_rfl) (by kernel_rfl) ?_
        intro r_ hr_
        have o0_ : r_ (.tmp 5) = .pointer (some ⟨w.heap.size + 1 + 1, 0, none⟩) := op_at hr_ 0 (by kernel_rfl) (by kernel_rfl)
        clear hr_
        go_simp; first | done | with_reducible rfl | omega
      simp only [Act.put, planVG, List.setIfInBounds_toArray, List.set_cons_zero, List.set_cons_succ, List.getElem?_cons_zero, List.getElem?_cons_succ]
      refine ⟨?_, ?_⟩
      · as_aux_lemma =>
        intro y_ hS_ hO_ hD
        have Q := ((hS_ (by rfl)).2.2.2.2.1).cell
        have q0 := Q 0 _ rfl
        have q1 := Q 1 _ rfl
        have q2 := Q 2 _ rfl
        have q3 := Q 3 _ rfl
        have q4 := Q 4 _ rfl
        clear Q hS_ hO_ hD
        refine s_gen (V := .int .i64 (ex)) [.pointer (some ⟨w.heap.size + 1 + 1, 2, none⟩)] (by kernel_rfl) (by kernel_rfl) (by kernel_rfl) ?_
        intro r_ hr_
        have o0_ : r_ (.tmp 82) = .pointer (some ⟨w.heap.size + 1 + 1, 2, none⟩) := op_at hr_ 0 (by kernel_rfl) (by kernel_rfl)
        clear hr_
        go_simp; first | done | with_reducible rfl
      simp only [Act.put, planVG, List.setIfInBounds_toArray, List.set_cons_zero, List.set_cons_succ, List.getElem?_cons_zero, List.getElem?_cons_succ]
      refine ⟨?_, ?_⟩
      · as_aux_lemma =>
        intro y_ hS_ hO_ hD
        clear hS_ hO_ hD
        refine s_gen (V := .pointer (some ⟨w.heap.size + 1 + 1, 3, none⟩)) [.pointer (some ⟨w.heap.size + 1 + 1, 0, none⟩)] (by kernel_rfl) (by kernel_rfl) (by kernel_rfl) ?_
        intro r_ hr_
        have o0_ : r_ (.tmp 5) = .pointer (some ⟨w.heap.size + 1 + 1, 0, none⟩) := op_at hr_ 0 (by kernel_rfl) (by kernel_rfl)
        clear hr_
        go_simp; first | done | with_reducible rfl | omega
      simp only [Act.put, planVG, List.setIfInBounds_toArray, List.set_cons_zero, List.set_cons_succ, List.getElem?_cons_zero, List.getElem?_cons_succ]
      refine ⟨?_, ?_⟩
      · as_aux_lemma =>
        intro y_ hS_ hO_ hD
        have Q := ((hS_ (by rfl)).2.2.2.2.1).cell
        have q0 := Q 0 _ rfl
        have q1 := Q 1 _ rfl
        have q2 := Q 2 _ rfl
        have q3 := Q 3 _ rfl
        have q4 := Q 4 _ rfl
        clear Q hS_ hO_ hD
        refine s_gen (V := bitsV N) [.pointer (some ⟨w.heap.size + 1 + 1, 3, none⟩)] (by kernel_rfl) (by kernel_rfl) (by kernel_rfl) ?_
        intro r_ hr_
        have o0_ : r_ (.tmp 84) = .pointer (some ⟨w.heap.size + 1 + 1, 3, none⟩) := op_at hr_ 0 (by kernel_rfl) (by kernel_rfl)
        clear hr_
        go_simp; first | done | with_reducible rfl
      simp only [Act.put, planVG, List.setIfInBounds_toArray, List.set_cons_zero, List.set_cons_succ, List.getElem?_cons_zero, List.getElem?_cons_succ]
      refine ⟨?_, ?_⟩
      · as_aux_lemma =>
        intro y_ hS_ hO_ hD
        clear hS_ hO_ hD
        refine s_gen (V := .agg #[.int .u64 0, .int .u64 0]) [] (by kernel_rfl) (by kernel_rfl) (by kernel_rfl) ?_
        intro r_ hr_
        
        clear hr_
        go_simp; first | done | with_reducible rfl | omega
      simp only [Act.put, planVG, List.setIfInBounds_toArray, List.set_cons_zero, List.set_cons_succ, List.getElem?_cons_zero, List.getElem?_cons_succ]
      refine ⟨?_, ?_⟩
      · as_aux_lemma =>
        intro y_ hS_ hO_ hD
        try clear hS
        clear hS_ hO_ hD
        refine s_gcall (V := wideV J) [.func (.func 25) #[] #[], bitsV N, .agg #[.int .u64 0, .int .u64 0]] ?_ ?_ (by kernel_rfl) (by kernel_rfl) (by kernel_rfl) ?_ ?_
        rotate_left 2
        · intro r_ hr_
          have o0_ : r_ (.func 25) = .func (.func 25) #[] #[] := op_at hr_ 0 (by kernel_rfl) (by kernel_rfl)
          have o1_ : r_ (.tmp 85) = bitsV N := op_at hr_ 1 (by kernel_rfl) (by kernel_rfl)
          have o2_ : r_ (.tmp 86) = .agg #[.int .u64 0, .int .u64 0] := op_at hr_ 2 (by kernel_rfl) (by kernel_rfl)
          clear hr_
          go_simp; first | done | with_reducible rfl | (constructor <;> with_reducible rfl)
        · refine H7.out _
      simp only [Act.put, planVG, List.setIfInBounds_toArray, List.set_cons_zero, List.set_cons_succ, List.getElem?_cons_zero, List.getElem?_cons_succ]
      refine ⟨?_, ?_⟩
      · as_aux_lemma =>
        intro y_ hS_ hO_ hD
        clear hS_ hO_ hD
        refine s_gen (V := termV ex J) [.int .i64 (ex), wideV J] (by kernel_rfl) (by kernel_rfl) (by kernel_rfl) ?_
        intro r_ hr_
        have o0_ : r_ (.tmp 83) = .int .i64 (ex) := op_at hr_ 0 (by kernel_rfl) (by kernel_rfl)
        have o1_ : r_ (.tmp 87) = wideV J := op_at hr_ 1 (by kernel_rfl) (by kernel_rfl)
        clear hr_
        go_simp; first | done | with_reducible rfl | omega
      simp only [Act.put, planVG, List.setIfInBounds_toArray, List.set_cons_zero, List.set_cons_succ, List.getElem?_cons_zero, List.getElem?_cons_succ]
      refine ⟨?_, ?_⟩
      · as_aux_lemma =>
        intro y_ hS_ hO_ hD
        clear hS_ hO_ hD
        refine s_gen (V := .bool true) [termV ex J, termV ex J] (by kernel_rfl) (by kernel_rfl) (by kernel_rfl) ?_
        intro r_ hr_
        have o0_ : r_ (.tmp 81) = termV ex J := op_at hr_ 0 (by kernel_rfl) (by kernel_rfl)
        have o1_ : r_ (.tmp 88) = termV ex J := op_at hr_ 1 (by kernel_rfl) (by kernel_rfl)
        clear hr_
        go_simp; first | done | with_reducible rfl | omega
      simp only [Act.put, planVG, List.setIfInBounds_toArray, List.set_cons_zero, List.set_cons_succ, List.getElem?_cons_zero, List.getElem?_cons_succ]
      refine ⟨?_, ?_⟩
      · as_aux_lemma =>
        intro y_ hS_ hO_ hD
        clear hS_ hO_ hD
        refine s_gen (V := .bool true) [.bool true, .bool true, .bool false] (by kernel_rfl) (by kernel_rfl) (by kernel_rfl) ?_
        intro r_ hr_
        have o0_ : r_ (.tmp 79) = .bool true := op_at hr_ 0 (by kernel_rfl) (by kernel_rfl)
        have o1_ : r_ (.tmp 89) = .bool true := op_at hr_ 1 (by kernel_rfl) (by kernel_rfl)
        have o2_ : r_ (.const (.bool false)) = .bool false := op_at hr_ 2 (by kernel_rfl) (by kernel_rfl)
        clear hr_
        go_simp; first | done | with_reducible rfl | omega
      simp only [Act.put, planVG, List.setIfInBounds_toArray, List.set_cons_zero, List.set_cons_succ, List.getElem?_cons_zero, List.getElem?_cons_succ]
      refine ⟨?_, ?_⟩
      · as_aux_lemma =>
        intro y_ hS_ hO_ hD
        clear hS_ hO_ hD
        refine s_gen (V := .bool true) [.bool true] (by kernel_rfl) (by kernel_rfl) (by kernel_rfl) ?_
        intro r_ hr_
        have o0_ : r_ (.tmp 90) = .bool true := op_at hr_ 0 (by kernel_rfl) (by kernel_rfl)
        clear hr_
        go_simp; first | done | with_reducible rfl | omega
      simp only [Act.put, planVG, List.setIfInBounds_toArray, List.set_cons_zero, List.set_cons_succ, List.getElem?_cons_zero, List.getElem?_cons_succ]
      refine ⟨?_, ?_⟩
      · as_aux_lemma =>
        intro y_ hS_ hO_ hD
        try clear hS
        clear hS_ hO_ hD
        refine s_gcall (V := .bool true) [.func (.func 50) #[] #[]] ?_ ?_ (by kernel_rfl) (by kernel_rfl) (by kernel_rfl) ?_ ?_
        rotate_left 2
        · intro r_ hr_
          have o0_ : r_ (.func 50) = .func (.func 50) #[] #[] := op_at hr_ 0 (by kernel_rfl) (by kernel_rfl)
          clear hr_
          go_simp; first | done | with_reducible rfl | (constructor <;> with_reducible rfl)
        · refine goes17_any _
      simp only [Act.put, planVG, List.setIfInBounds_toArray, List.set_cons_zero, List.set_cons_succ, List.getElem?_cons_zero, List.getElem?_cons_succ]
      refine ⟨?_, ?_⟩
      · as_aux_lemma =>
        intro y_ hS_ hO_ hD
        clear hS_ hO_ hD
        refine s_gen (V := .bool true) [.bool true, .bool true, .bool false] (by kernel_rfl) (by kernel_rfl) (by kernel_rfl) ?_
        intro r_ hr_
        have o0_ : r_ (.tmp 91) = .bool true := op_at hr_ 0 (by kernel_rfl) (by kernel_rfl)
        have o1_ : r_ (.tmp 92) = .bool true := op_at hr_ 1 (by kernel_rfl) (by kernel_rfl)
        have o2_ : r_ (.const (.bool false)) = .bool false := op_at hr_ 2 (by kernel_rfl) (by kernel_rfl)
        clear hr_
        go_simp; first | done | with_reducible rfl | omega
      simp only [Act.put, planVG, List.setIfInBounds_toArray, List.set_cons_zero, List.set_cons_succ, List.getElem?_cons_zero, List.getElem?_cons_succ]
      refine ⟨?_, ?_⟩
      · as_aux_lemma =>
        intro y_ hS_ hO_ hD
        clear hS_ hO_ hD
        refine s_gen (V := .bool true) [.bool true] (by kernel_rfl) (by kernel_rfl) (by kernel_rfl) ?_
        intro r_ hr_
        have o0_ : r_ (.tmp 93) = .bool true := op_at hr_ 0 (by kernel_rfl) (by kernel_rfl)
        clear hr_
        go_simp; first | done | with_reducible rfl | omega
      simp only [Act.put, planVG, List.setIfInBounds_toArray, List.set_cons_zero, List.set_cons_succ, List.getElem?_cons_zero, List.getElem?_cons_succ]
      as_aux_lemma =>
        intro w4 hS hF hD_
        change wpList _ _ _ _ _ _
        replace hS := sg_no (by decide) hS
        obtain ⟨hk, hZ4, X1, X2, X3, Bv1_12, Bv2_13, X4⟩ := hS
        clear hF hD_
        clear ρ
        have hz_w4 := hk.size
        have X1l := X1.lt
        have X1f := X1.free
        have X1l1 : w.heap.size < w4.heap.size + 1 := by omega
        have X1l2 : w.heap.size < w4.heap.size + 1 + 1 := by omega
        have X1l3 : w.heap.size < w4.heap.size + 1 + 1 + 1 := by omega
        have X10 := X1.cell 0 _ rfl
        have X11 := X1.cell 1 _ rfl
        have X12 := X1.cell 2 _ rfl
        have X13 := X1.cell 3 _ rfl
        have X14 := X1.cell 4 _ rfl
        have X2l := X2.lt
        have X2f := X2.free
        have X2l1 : w.heap.size + 1 < w4.heap.size + 1 := by omega
        have X2l2 : w.heap.size + 1 < w4.heap.size + 1 + 1 := by omega
        have X2l3 : w.heap.size + 1 < w4.heap.size + 1 + 1 + 1 := by omega
        have X20 := X2.cell 0 _ rfl
        have X21 := X2.cell 1 _ rfl
        have X22 := X2.cell 2 _ rfl
        have X23 := X2.cell 3 _ rfl
        have X24 := X2.cell 4 _ rfl
        have X3l := X3.lt
        have X3f := X3.free
        have X3l1 : w.heap.size + 1 + 1 < w4.heap.size + 1 := by omega
        have X3l2 : w.heap.size + 1 + 1 < w4.heap.size + 1 + 1 := by omega
        have X3l3 : w.heap.size + 1 + 1 < w4.heap.size + 1 + 1 + 1 := by omega
        have X30 := X3.cell 0 _ rfl
        have X31 := X3.cell 1 _ rfl
        have X32 := X3.cell 2 _ rfl
        have X33 := X3.cell 3 _ rfl
        have X34 := X3.cell 4 _ rfl
        have Bv1_12l := Bv1_12.lt
        have Bv1_12f := Bv1_12.free
        have Bv1_12l1 : v1_12 < w4.heap.size + 1 := by omega
        have Bv1_12l2 : v1_12 < w4.heap.size + 1 + 1 := by omega
        have Bv1_12l3 : v1_12 < w4.heap.size + 1 + 1 + 1 := by omega
        have Bv1_120 := Bv1_12.cell 0 _ rfl
        have Bv1_121 := Bv1_12.cell 1 _ rfl
        have Bv1_122 := Bv1_12.cell 2 _ rfl
        have Bv1_123 := Bv1_12.cell 3 _ rfl
        have Bv2_13l := Bv2_13.lt
        have Bv2_13f := Bv2_13.free
        have Bv2_13l1 : v2_13 < w4.heap.size + 1 := by omega
        have Bv2_13l2 : v2_13 < w4.heap.size + 1 + 1 := by omega
        have Bv2_13l3 : v2_13 < w4.heap.size + 1 + 1 + 1 := by omega
        have Bv2_130 := Bv2_13.cell 0 _ rfl
        have Bv2_131 := Bv2_13.cell 1 _ rfl
        have Bv2_132 := Bv2_13.cell 2 _ rfl
        have Bv2_133 := Bv2_13.cell 3 _ rfl
        have X4l := X4.lt
        have X4f := X4.free
        have X4l1 : w3.heap.size < w4.heap.size + 1 := by omega
        have X4l2 : w3.heap.size < w4.heap.size + 1 + 1 := by omega
        have X4l3 : w3.heap.size < w4.heap.size + 1 + 1 + 1 := by omega
        have X40 := X4.cell 0 _ rfl
        have X41 := X4.cell 1 _ rfl
        have X42 := X4.cell 2 _ rfl
        have X43 := X4.cell 3 _ rfl
        have X44 := X4.cell 4 _ rfl
        go_wp2
        go_ret
        exact ⟨rfl, (by refine Kept.below ?_; repeat (first | with_reducible exact hk | with_reducible exact Kept.refl _ | with_reducible refine Kept.alloc ?_ _ | with_reducible refine Kept.drew ?_ | with_reducible refine Kept.setCell ?_ (by simp only [World.size_alloc, World.size_setCell, World.size_drew]; omega) _))⟩

end Go.Proofs.Ythpmbfdbknikcaa
