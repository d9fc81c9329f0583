/- The walk of MagKnown. -/
import Derived.Test.YthpmbfdbknikcaaLaw17
set_option linter.unusedVariables false
set_option linter.unusedSimpArgs false
namespace Go.Proofs.Ythpmbfdbknikcaa
open Go.RowKit

theorem side_nought (x t : Int) : sideI x (val4 0 0 0 0) t = 0 := by
  have h0 : val4 0 0 0 0 = 0 := rfl
  have hl : lostB 0 (t - x) = false := by unfold lostB; simp
  unfold sideI
  rw [h0, jam_no hl]; unfold rightN; exact Nat.zero_div _
theorem farSum (w : World) : Calls Try.prog 47 #[.agg #[.int .i64 4611686018427387904, .int .u64 1, .int .u64 0, .int .u64 0, .int .u64 0], .agg #[.int .i64 (-4611686018427387904), .int .u64 0, .int .u64 0, .int .u64 0, .int .u64 0]] w fun e w' => e = .returned (.agg #[.int .i64 1099511627777, .int .u64 1, .int .u64 0, .int .u64 0, .int .u64 0]) ∧ Below w.heap.size w w' := by
  have h := magSum_at (x := 4611686018427387904) (y := -4611686018427387904) (IsWide.val (show U64 (1 : Int) from isU64_mk (by decide +kernel)) u64_zero u64_zero u64_zero) (IsWide.val u64_zero u64_zero u64_zero u64_zero) w
  rw [side_nought] at h
  exact calls_to h (by kernel_rfl)
theorem lit_15ccde08 (w : World) : Calls Try.prog 49 #[.agg #[.int .i64 0, .int .u64 0, .int .u64 0, .int .u64 0, .int .u64 9223372036854775808], .agg #[.int .i64 1, .int .u64 0, .int .u64 0, .int .u64 0, .int .u64 9223372036854775808]] w fun e w' => e = .returned (.tuple #[.agg #[.int .i64 1, .int .u64 0, .int .u64 0, .int .u64 0, .int .u64 4611686018427387904], .bool true]) ∧ Below w.heap.size w w' :=
  calls_to (V := .tuple #[.agg #[.int .i64 1, .int .u64 0, .int .u64 0, .int .u64 0, .int .u64 4611686018427387904], .bool true]) (magDiff1_at (x := 0) (y := 1) (IsWide.val u64_zero u64_zero u64_zero (isU64_mk (by decide +kernel))) (IsWide.val u64_zero u64_zero u64_zero (isU64_mk (by decide +kernel))) (by decide +kernel) _) (by kernel_rfl)
theorem lit_1ffe7708 (w : World) : Calls Try.prog 49 #[.agg #[.int .i64 0, .int .u64 0, .int .u64 0, .int .u64 0, .int .u64 9223372036854775808], .agg #[.int .i64 (-500), .int .u64 4, .int .u64 0, .int .u64 0, .int .u64 0]] w fun e w' => e = .returned (.tuple #[.agg #[.int .i64 0, .int .u64 18446744073709551615, .int .u64 18446744073709551615, .int .u64 18446744073709551615, .int .u64 9223372036854775807], .bool false]) ∧ Below w.heap.size w w' :=
  calls_to (V := .tuple #[.agg #[.int .i64 0, .int .u64 18446744073709551615, .int .u64 18446744073709551615, .int .u64 18446744073709551615, .int .u64 9223372036854775807], .bool false]) (magDiff0_at (x := 0) (y := -500) (IsWide.val u64_zero u64_zero u64_zero (isU64_mk (by decide +kernel))) (IsWide.val (isU64_mk (by decide +kernel)) u64_zero u64_zero u64_zero) (by decide +kernel) _) (by kernel_rfl)
theorem lit_770dd32f (w : World) : Calls Try.prog 51 #[.agg #[.int .i64 1, .int .u64 1, .int .u64 0, .int .u64 0, .int .u64 0], .agg #[.int .i64 0, .int .u64 2, .int .u64 0, .int .u64 0, .int .u64 0]] w fun e w' => e = .returned (.int .i64 0) ∧ Below w.heap.size w w' :=
  calls_to (V := .int .i64 0) (magCmp_at (x := 1) (y := 0) (IsWide.val (isU64_mk (by decide +kernel)) u64_zero u64_zero u64_zero) (IsWide.val (isU64_mk (by decide +kernel)) u64_zero u64_zero u64_zero) _) (by kernel_rfl)
theorem lit_5887ff5d (w : World) : Calls Try.prog 51 #[.agg #[.int .i64 300, .int .u64 1, .int .u64 0, .int .u64 0, .int .u64 0], .agg #[.int .i64 0, .int .u64 18446744073709551615, .int .u64 18446744073709551615, .int .u64 18446744073709551615, .int .u64 18446744073709551615]] w fun e w' => e = .returned (.int .i64 1) ∧ Below w.heap.size w w' :=
  calls_to (V := .int .i64 1) (magCmp_at (x := 300) (y := 0) (IsWide.val (isU64_mk (by decide +kernel)) u64_zero u64_zero u64_zero) (IsWide.val (isU64_mk (by decide +kernel)) (isU64_mk (by decide +kernel)) (isU64_mk (by decide +kernel)) (isU64_mk (by decide +kernel))) _) (by kernel_rfl)
theorem lit_837d52bf (w : World) : Calls Try.prog 55 #[.agg #[.bool false, .int .u8 0, .int .i64 5, .int .u64 7, .int .u64 6]] w fun e w' => e = .returned (.agg #[.int .i64 5, .int .u64 0, .int .u64 0, .int .u64 6, .int .u64 7]) ∧ Below w.heap.size w w' :=
  calls_to (V := .agg #[.int .i64 5, .int .u64 0, .int .u64 0, .int .u64 6, .int .u64 7]) (magOf_at (IsBits.val (isU64_mk (by decide +kernel)) (isU64_mk (by decide +kernel))) _) (by kernel_rfl)
set_option maxRecDepth 100000 in
set_option maxHeartbeats 8000000 in
theorem MagKnown_walk (w : World) :
    Calls Try.prog 12 #[] w fun e w' => e = .returned (.bool true) ∧ Below w.heap.size w w' := by
  have hk := Kept.refl w
  go_enter Try.func12, Try.ntmps12
  go_wp2_with fail
  (with_reducible refine (one17_any _).mono ?_)
  rintro e w1 ⟨rfl, hb⟩
  have hk' : Kept w.heap.size w w1 := Kept.step (by repeat (first | with_reducible exact hk | with_reducible exact Kept.refl _ | with_reducible refine Kept.alloc ?_ _ | with_reducible refine Kept.drew ?_ | with_reducible refine Kept.setCell ?_ (by simp only [World.size_alloc, World.size_setCell, World.size_drew]; omega) _)) hb
  clear hk hb
  have hk := hk'
  clear hk'
  have hz_w1 := hk.size
  go_wp2
  refine wp_region_g 8 (fun W' => Kept w.heap.size w W' ∧ w1.heap.size + 1 ≤ W'.heap.size ∧ Box W' (w1.heap.size) #[.int .i64 1, .int .u64 0, .int .u64 0, .int .u64 0, .int .u64 9223372036854775808]) (fun W' => Kept w.heap.size w W' ∧ w1.heap.size + 1 ≤ W'.heap.size ∧ Box W' (w1.heap.size) #[.int .i64 1, .int .u64 0, .int .u64 0, .int .u64 0, .int .u64 9223372036854775808]) 1000 (w1.heap.size + 1) [.known (.agg #[.int .i64 0, .int .u64 0, .int .u64 0, .int .u64 0, .int .u64 9223372036854775808]), .known (.agg #[.int .i64 1, .int .u64 0, .int .u64 0, .int .u64 0, .int .u64 9223372036854775808]), .known (.tuple #[.agg #[.int .i64 1, .int .u64 0, .int .u64 0, .int .u64 0, .int .u64 4611686018427387904], .bool true]), .known (.tuple #[.agg #[.int .i64 1, .int .u64 0, .int .u64 0, .int .u64 0, .int .u64 4611686018427387904], .bool true]), .known (.agg #[.int .i64 1, .int .u64 0, .int .u64 0, .int .u64 0, .int .u64 4611686018427387904]), .known (.bool true), .var #[.int .i64 0, .int .u64 0, .int .u64 0, .int .u64 0, .int .u64 0] 7 [.int .i64 1, .int .u64 0, .int .u64 0, .int .u64 0, .int .u64 4611686018427387904], .put 6] (by kernel_rfl) (by kernel_rfl) (fun W W' h hb => ⟨h.1.step hb, Nat.le_trans (h.2.1) hb.size, Box.call hb (h.2.2)⟩) (fun W W' h hb => ⟨h.1.step hb, Nat.le_trans (h.2.1) hb.size, Box.call hb (h.2.2)⟩) (no_out (of_decide_eq_true (by kernel_rfl))) (.inr (fun W' b i v hb h => ⟨h.1.setCell (p := ⟨b, i, none⟩) (by simp only []; omega) v, (by rw [World.size_setCell]; exact h.2.1), (h.2.2).other (by omega)⟩)) (.inr (fun W' b i v hb h => ⟨h.1.setCell (p := ⟨b, i, none⟩) (by simp only []; omega) v, (by rw [World.size_setCell]; exact h.2.1), (h.2.2).other (by omega)⟩)) (fun _ h => h.2.1) (fun _ h => h.2.1) (⟨(by repeat (first | with_reducible exact hk | with_reducible exact Kept.refl _ | with_reducible refine Kept.alloc ?_ _ | with_reducible refine Kept.drew ?_ | with_reducible refine Kept.setCell ?_ (by simp only [World.size_alloc, World.size_setCell, World.size_drew]; omega) _)), (by (try simp only [World.size_alloc, World.size_setCell, World.size_drew]); omega), (by repeat (first | with_reducible assumption | with_reducible apply Box.set10 | with_reducible apply Box.set20 | with_reducible apply Box.set21 | with_reducible apply Box.set40 | with_reducible apply Box.set41 | with_reducible apply Box.set42 | with_reducible apply Box.set43 | with_reducible apply Box.set50 | with_reducible apply Box.set51 | with_reducible apply Box.set52 | with_reducible apply Box.set53 | with_reducible apply Box.set54 | with_reducible apply Box.set80 | with_reducible apply Box.set81 | with_reducible apply Box.set82 | with_reducible apply Box.set83 | with_reducible apply Box.set84 | with_reducible apply Box.set85 | with_reducible apply Box.set86 | with_reducible apply Box.set87 | with_reducible apply Box.drew | (with_reducible apply Box.newAt; (try simp only [World.size_alloc, World.size_setCell, World.size_drew]); done) | with_reducible apply Box.alloc | (with_reducible apply Box.other; case hne => ((try simp only [World.size_alloc, World.size_setCell, World.size_drew]); omega))))⟩) ?_
  clear hk
  intro ρ
  simp only [List.take_succ_cons, List.take_zero, List.drop_succ_cons, List.drop_zero]
  refine ⟨?_, ?_⟩
  · as_aux_lemma =>
    intro y_ hS_ hO_ hD
    try clear hS
    clear hS_ hO_ hD
    refine s_gcall (V := .agg #[.int .i64 0, .int .u64 0, .int .u64 0, .int .u64 0, .int .u64 9223372036854775808]) [.func (.func 56) #[] #[]] ?_ ?_ (by kernel_rfl) (by kernel_rfl) (by kernel_rfl) ?_ ?_
    rotate_left 2
    · intro r_ hr_
      have o0_ : r_ (.func 56) = .func (.func 56) #[] #[] := op_at hr_ 0 (by kernel_rfl) (by kernel_rfl)
      clear hr_
      go_simp; first | done | with_reducible rfl | (constructor <;> with_reducible rfl)
    · refine one17_any _
  simp only [Act.put, planVG, List.setIfInBounds_toArray, List.set_cons_zero, List.set_cons_succ, List.getElem?_cons_zero, List.getElem?_cons_succ]
  refine ⟨?_, ?_⟩
  · as_aux_lemma =>
    intro y_ hS_ hO_ hD
    have Q := ((hS_ (by rfl)).2.2).cell
    have q0 := Q 0 _ rfl
    have q1 := Q 1 _ rfl
    have q2 := Q 2 _ rfl
    have q3 := Q 3 _ rfl
    have q4 := Q 4 _ rfl
    clear Q hS_ hO_ hD
    refine s_gen (V := .agg #[.int .i64 1, .int .u64 0, .int .u64 0, .int .u64 0, .int .u64 9223372036854775808]) [.pointer (some ⟨w1.heap.size, 0, none⟩)] (by kernel_rfl) (by kernel_rfl) (by kernel_rfl) ?_
    intro r_ hr_
    have o0_ : r_ (.tmp 1) = .pointer (some ⟨w1.heap.size, 0, none⟩) := op_at hr_ 0 (by kernel_rfl) (by kernel_rfl)
    clear hr_
    go_simp; first | done | with_reducible rfl
  simp only [Act.put, planVG, List.setIfInBounds_toArray, List.set_cons_zero, List.set_cons_succ, List.getElem?_cons_zero, List.getElem?_cons_succ]
  refine ⟨?_, ?_⟩
  · as_aux_lemma =>
    intro y_ hS_ hO_ hD
    try clear hS
    clear hS_ hO_ hD
    refine s_gcall (V := .tuple #[.agg #[.int .i64 1, .int .u64 0, .int .u64 0, .int .u64 0, .int .u64 4611686018427387904], .bool true]) [.func (.func 49) #[] #[], .agg #[.int .i64 0, .int .u64 0, .int .u64 0, .int .u64 0, .int .u64 9223372036854775808], .agg #[.int .i64 1, .int .u64 0, .int .u64 0, .int .u64 0, .int .u64 9223372036854775808]] ?_ ?_ (by kernel_rfl) (by kernel_rfl) (by kernel_rfl) ?_ ?_
    rotate_left 2
    · intro r_ hr_
      have o0_ : r_ (.func 49) = .func (.func 49) #[] #[] := op_at hr_ 0 (by kernel_rfl) (by kernel_rfl)
      have o1_ : r_ (.tmp 11) = .agg #[.int .i64 0, .int .u64 0, .int .u64 0, .int .u64 0, .int .u64 9223372036854775808] := op_at hr_ 1 (by kernel_rfl) (by kernel_rfl)
      have o2_ : r_ (.tmp 12) = .agg #[.int .i64 1, .int .u64 0, .int .u64 0, .int .u64 0, .int .u64 9223372036854775808] := op_at hr_ 2 (by kernel_rfl) (by kernel_rfl)
      clear hr_
      go_simp; first | done | with_reducible rfl | (constructor <;> with_reducible rfl)
    · refine lit_15ccde08 _
  simp only [Act.put, planVG, List.setIfInBounds_toArray, List.set_cons_zero, List.set_cons_succ, List.getElem?_cons_zero, List.getElem?_cons_succ]
  refine ⟨?_, ?_⟩
  · as_aux_lemma =>
    intro y_ hS_ hO_ hD
    clear hS_ hO_ hD
    refine s_gen (V := .tuple #[.agg #[.int .i64 1, .int .u64 0, .int .u64 0, .int .u64 0, .int .u64 4611686018427387904], .bool true]) [.tuple #[.agg #[.int .i64 1, .int .u64 0, .int .u64 0, .int .u64 0, .int .u64 4611686018427387904], .bool true]] (by kernel_rfl) (by kernel_rfl) (by kernel_rfl) ?_
    intro r_ hr_
    have o0_ : r_ (.tmp 13) = .tuple #[.agg #[.int .i64 1, .int .u64 0, .int .u64 0, .int .u64 0, .int .u64 4611686018427387904], .bool true] := op_at hr_ 0 (by kernel_rfl) (by kernel_rfl)
    clear hr_
    go_simp; first | done | with_reducible rfl | omega
  simp only [Act.put, planVG, List.setIfInBounds_toArray, List.set_cons_zero, List.set_cons_succ, List.getElem?_cons_zero, List.getElem?_cons_succ]
  refine ⟨?_, ?_⟩
  · as_aux_lemma =>
    intro y_ hS_ hO_ hD
    clear hS_ hO_ hD
    refine s_gen (V := .agg #[.int .i64 1, .int .u64 0, .int .u64 0, .int .u64 0, .int .u64 4611686018427387904]) [.tuple #[.agg #[.int .i64 1, .int .u64 0, .int .u64 0, .int .u64 0, .int .u64 4611686018427387904], .bool true]] (by kernel_rfl) (by kernel_rfl) (by kernel_rfl) ?_
    intro r_ hr_
    have o0_ : r_ (.tmp 10) = .tuple #[.agg #[.int .i64 1, .int .u64 0, .int .u64 0, .int .u64 0, .int .u64 4611686018427387904], .bool true] := op_at hr_ 0 (by kernel_rfl) (by kernel_rfl)
    clear hr_
    go_simp; first | done | with_reducible rfl | omega
  simp only [Act.put, planVG, List.setIfInBounds_toArray, List.set_cons_zero, List.set_cons_succ, List.getElem?_cons_zero, List.getElem?_cons_succ]
  refine ⟨?_, ?_⟩
  · as_aux_lemma =>
    intro y_ hS_ hO_ hD
    clear hS_ hO_ hD
    refine s_gen (V := .bool true) [.tuple #[.agg #[.int .i64 1, .int .u64 0, .int .u64 0, .int .u64 0, .int .u64 4611686018427387904], .bool true]] (by kernel_rfl) (by kernel_rfl) (by kernel_rfl) ?_
    intro r_ hr_
    have o0_ : r_ (.tmp 10) = .tuple #[.agg #[.int .i64 1, .int .u64 0, .int .u64 0, .int .u64 0, .int .u64 4611686018427387904], .bool true] := op_at hr_ 0 (by kernel_rfl) (by kernel_rfl)
    clear hr_
    go_simp; first | done | with_reducible rfl | omega
  simp only [Act.put, planVG, List.setIfInBounds_toArray, List.set_cons_zero, List.set_cons_succ, List.getElem?_cons_zero, List.getElem?_cons_succ]
  refine ⟨?_, ?_⟩
  · as_aux_lemma =>
    intro y_ hS_ hO_ hD
    clear hS_ hO_ hD
    refine s_alloc (by rfl) (by rfl) ?_
    simp only [allocTy]
    go_simp; first | done | with_reducible rfl | rfl
  simp only [Act.put, planVG, List.setIfInBounds_toArray, List.set_cons_zero, List.set_cons_succ, List.getElem?_cons_zero, List.getElem?_cons_succ]
  refine ⟨?_, ?_⟩
  · as_aux_lemma =>
    intro y_ hS_ hO_ hD
    have hS := hS_ (by rfl)
    clear hS hS_ hO_ hD
    refine s_gput (j := 6) (Z := #[.int .i64 0, .int .u64 0, .int .u64 0, .int .u64 0, .int .u64 0]) (V := [.int .i64 1, .int .u64 0, .int .u64 0, .int .u64 0, .int .u64 4611686018427387904]) [ρ 6, .agg #[.int .i64 1, .int .u64 0, .int .u64 0, .int .u64 0, .int .u64 4611686018427387904]] (by kernel_rfl) (by kernel_rfl) (by kernel_rfl) (by kernel_rfl) ?_
    intro r_ b hr_ hb hB F
    have o0_ : r_ (.tmp 2) = ρ 6 := op_at hr_ 0 (by kernel_rfl) (by kernel_rfl)
    have o1_ : r_ (.tmp 14) = .agg #[.int .i64 1, .int .u64 0, .int .u64 0, .int .u64 0, .int .u64 4611686018427387904] := op_at hr_ 1 (by kernel_rfl) (by kernel_rfl)
    clear hr_
    rw [hb] at o0_
    have Q := F.cell
    have q0 := Q 0 _ rfl
    have q1 := Q 1 _ rfl
    have q2 := Q 2 _ rfl
    have q3 := Q 3 _ rfl
    have q4 := Q 4 _ rfl
    have Qf := F.free
    have Ql := F.lt
    clear Q F
    simp only [putCells]
    go_simp; first | done | with_reducible rfl | rfl
  simp only [Act.put, planVG, List.setIfInBounds_toArray, List.set_cons_zero, List.set_cons_succ, List.getElem?_cons_zero, List.getElem?_cons_succ]
  as_aux_lemma =>
    intro w2 hS hF hD_
    change wpList _ _ _ _ _ _
    replace hS := sg_no (by decide) hS
    obtain ⟨hk, hZ2, X1⟩ := hS
    obtain ⟨v3_6, e_v3_6, hv3_6, Bv3_6⟩ : ∃ b, ρ 6 = .pointer (some ⟨b, 0, none⟩) ∧ w1.heap.size + 1 ≤ b ∧ Box w2 b #[.int .i64 1, .int .u64 0, .int .u64 0, .int .u64 0, .int .u64 4611686018427387904] := by
      obtain ⟨b, h1, h2, h3⟩ := hF 6 (by decide)
      exact ⟨b, h1, h2, h3.lt, h3.cell, h3.free⟩
    clear hF hD_
    simp only [e_v3_6]
    clear e_v3_6
    clear ρ
    have hz_w2 := hk.size
    have X1l := X1.lt
    have X1f := X1.free
    have X1l1 : w1.heap.size < w2.heap.size + 1 := by omega
    have X1l2 : w1.heap.size < w2.heap.size + 1 + 1 := by omega
    have X1l3 : w1.heap.size < w2.heap.size + 1 + 1 + 1 := by omega
    have X10 := X1.cell 0 _ rfl
    have X11 := X1.cell 1 _ rfl
    have X12 := X1.cell 2 _ rfl
    have X13 := X1.cell 3 _ rfl
    have X14 := X1.cell 4 _ rfl
    have Bv3_6l := Bv3_6.lt
    have Bv3_6f := Bv3_6.free
    have Bv3_6l1 : v3_6 < w2.heap.size + 1 := by omega
    have Bv3_6l2 : v3_6 < w2.heap.size + 1 + 1 := by omega
    have Bv3_6l3 : v3_6 < w2.heap.size + 1 + 1 + 1 := by omega
    have Bv3_60 := Bv3_6.cell 0 _ rfl
    have Bv3_61 := Bv3_6.cell 1 _ rfl
    have Bv3_62 := Bv3_6.cell 2 _ rfl
    have Bv3_63 := Bv3_6.cell 3 _ rfl
    have Bv3_64 := Bv3_6.cell 4 _ rfl
    go_wp2
    refine wp_region_g 8 (fun W' => Kept w.heap.size w W' ∧ w2.heap.size + 1 ≤ W'.heap.size ∧ Box W' (v3_6) #[.int .i64 1, .int .u64 0, .int .u64 0, .int .u64 0, .int .u64 4611686018427387904] ∧ Box W' (w2.heap.size) #[.int .i64 (-500), .int .u64 4, .int .u64 0, .int .u64 0, .int .u64 0]) (fun W' => Kept w.heap.size w W' ∧ w2.heap.size + 1 ≤ W'.heap.size ∧ Box W' (v3_6) #[.int .i64 1, .int .u64 0, .int .u64 0, .int .u64 0, .int .u64 4611686018427387904] ∧ Box W' (w2.heap.size) #[.int .i64 (-500), .int .u64 4, .int .u64 0, .int .u64 0, .int .u64 0]) 1000 (w2.heap.size + 1) [.known (.agg #[.int .i64 0, .int .u64 0, .int .u64 0, .int .u64 0, .int .u64 9223372036854775808]), .known (.agg #[.int .i64 (-500), .int .u64 4, .int .u64 0, .int .u64 0, .int .u64 0]), .known (.tuple #[.agg #[.int .i64 0, .int .u64 18446744073709551615, .int .u64 18446744073709551615, .int .u64 18446744073709551615, .int .u64 9223372036854775807], .bool false]), .known (.tuple #[.agg #[.int .i64 0, .int .u64 18446744073709551615, .int .u64 18446744073709551615, .int .u64 18446744073709551615, .int .u64 9223372036854775807], .bool false]), .known (.agg #[.int .i64 0, .int .u64 18446744073709551615, .int .u64 18446744073709551615, .int .u64 18446744073709551615, .int .u64 9223372036854775807]), .known (.bool false), .var #[.int .i64 0, .int .u64 0, .int .u64 0, .int .u64 0, .int .u64 0] 7 [.int .i64 0, .int .u64 18446744073709551615, .int .u64 18446744073709551615, .int .u64 18446744073709551615, .int .u64 9223372036854775807], .put 6] (by kernel_rfl) (by kernel_rfl) (fun W W' h hb => ⟨h.1.step hb, Nat.le_trans (h.2.1) hb.size, Box.call hb (h.2.2.1), Box.call hb (h.2.2.2)⟩) (fun W W' h hb => ⟨h.1.step hb, Nat.le_trans (h.2.1) hb.size, Box.call hb (h.2.2.1), Box.call hb (h.2.2.2)⟩) (no_out (of_decide_eq_true (by kernel_rfl))) (.inr (fun W' b i v hb h => ⟨h.1.setCell (p := ⟨b, i, none⟩) (by simp only []; omega) v, (by rw [World.size_setCell]; exact h.2.1), (h.2.2.1).other (by omega), (h.2.2.2).other (by omega)⟩)) (.inr (fun W' b i v hb h => ⟨h.1.setCell (p := ⟨b, i, none⟩) (by simp only []; omega) v, (by rw [World.size_setCell]; exact h.2.1), (h.2.2.1).other (by omega), (h.2.2.2).other (by omega)⟩)) (fun _ h => h.2.1) (fun _ h => h.2.1) (⟨(by repeat (first | with_reducible exact hk | with_reducible exact Kept.refl _ | with_reducible refine Kept.alloc ?_ _ | with_reducible refine Kept.drew ?_ | with_reducible refine Kept.setCell ?_ (by simp only [World.size_alloc, World.size_setCell, World.size_drew]; omega) _)), (by (try simp only [World.size_alloc, World.size_setCell, World.size_drew]); omega), (by repeat (first | with_reducible assumption | with_reducible apply Box.set10 | with_reducible apply Box.set20 | with_reducible apply Box.set21 | with_reducible apply Box.set40 | with_reducible apply Box.set41 | with_reducible apply Box.set42 | with_reducible apply Box.set43 | with_reducible apply Box.set50 | with_reducible apply Box.set51 | with_reducible apply Box.set52 | with_reducible apply Box.set53 | with_reducible apply Box.set54 | with_reducible apply Box.set80 | with_reducible apply Box.set81 | with_reducible apply Box.set82 | with_reducible apply Box.set83 | with_reducible apply Box.set84 | with_reducible apply Box.set85 | with_reducible apply Box.set86 | with_reducible apply Box.set87 | with_reducible apply Box.drew | (with_reducible apply Box.newAt; (try simp only [World.size_alloc, World.size_setCell, World.size_drew]); done) | with_reducible apply Box.alloc | (with_reducible apply Box.other; case hne => ((try simp only [World.size_alloc, World.size_setCell, World.size_drew]); omega)))), (by repeat (first | with_reducible assumption | with_reducible apply Box.set10 | with_reducible apply Box.set20 | with_reducible apply Box.set21 | with_reducible apply Box.set40 | with_reducible apply Box.set41 | with_reducible apply Box.set42 | with_reducible apply Box.set43 | with_reducible apply Box.set50 | with_reducible apply Box.set51 | with_reducible apply Box.set52 | with_reducible apply Box.set53 | with_reducible apply Box.set54 | with_reducible apply Box.set80 | with_reducible apply Box.set81 | with_reducible apply Box.set82 | with_reducible apply Box.set83 | with_reducible apply Box.set84 | with_reducible apply Box.set85 | with_reducible apply Box.set86 | with_reducible apply Box.set87 | with_reducible apply Box.drew | (with_reducible apply Box.newAt; (try simp only [World.size_alloc, World.size_setCell, World.size_drew]); done) | with_reducible apply Box.alloc | (with_reducible apply Box.other; case hne => ((try simp only [World.size_alloc, World.size_setCell, World.size_drew]); omega))))⟩) ?_
    clear hk
    clear X1 X1l1 X1l2 X1l3 X1f X10 X11 X12 X13 X14
    clear Bv3_6 Bv3_6l1 Bv3_6l2 Bv3_6l3 Bv3_6f Bv3_60 Bv3_61 Bv3_62 Bv3_63 Bv3_64
    intro ρ
    simp only [List.take_succ_cons, List.take_zero, List.drop_succ_cons, List.drop_zero]
    refine ⟨?_, ?_⟩
    · as_aux_lemma =>
      intro y_ hS_ hO_ hD
      try clear hS
      clear hS_ hO_ hD
      refine s_gcall (V := .agg #[.int .i64 0, .int .u64 0, .int .u64 0, .int .u64 0, .int .u64 9223372036854775808]) [.func (.func 56) #[] #[]] ?_ ?_ (by kernel_rfl) (by kernel_rfl) (by kernel_rfl) ?_ ?_
      rotate_left 2
      · intro r_ hr_
        have o0_ : r_ (.func 56) = .func (.func 56) #[] #[] := op_at hr_ 0 (by kernel_rfl) (by kernel_rfl)
        clear hr_
        go_simp; first | done | with_reducible rfl | (constructor <;> with_reducible rfl)
      · refine one17_any _
    simp only [Act.put, planVG, List.setIfInBounds_toArray, List.set_cons_zero, List.set_cons_succ, List.getElem?_cons_zero, List.getElem?_cons_succ]
    refine ⟨?_, ?_⟩
    · as_aux_lemma =>
      intro y_ hS_ hO_ hD
      have Q := ((hS_ (by rfl)).2.2.2).cell
      have q0 := Q 0 _ rfl
      have q1 := Q 1 _ rfl
      have q2 := Q 2 _ rfl
      have q3 := Q 3 _ rfl
      have q4 := Q 4 _ rfl
      clear Q hS_ hO_ hD
      refine s_gen (V := .agg #[.int .i64 (-500), .int .u64 4, .int .u64 0, .int .u64 0, .int .u64 0]) [.pointer (some ⟨w2.heap.size, 0, none⟩)] (by kernel_rfl) (by kernel_rfl) (by kernel_rfl) ?_
      intro r_ hr_
      have o0_ : r_ (.tmp 4) = .pointer (some ⟨w2.heap.size, 0, none⟩) := op_at hr_ 0 (by kernel_rfl) (by kernel_rfl)
      clear hr_
      go_simp; first | done | with_reducible rfl
    simp only [Act.put, planVG, List.setIfInBounds_toArray, List.set_cons_zero, List.set_cons_succ, List.getElem?_cons_zero, List.getElem?_cons_succ]
    refine ⟨?_, ?_⟩
    · as_aux_lemma =>
      intro y_ hS_ hO_ hD
      try clear hS
      clear hS_ hO_ hD
      refine s_gcall (V := .tuple #[.agg #[.int .i64 0, .int .u64 18446744073709551615, .int .u64 18446744073709551615, .int .u64 18446744073709551615, .int .u64 9223372036854775807], .bool false]) [.func (.func 49) #[] #[], .agg #[.int .i64 0, .int .u64 0, .int .u64 0, .int .u64 0, .int .u64 9223372036854775808], .agg #[.int .i64 (-500), .int .u64 4, .int .u64 0, .int .u64 0, .int .u64 0]] ?_ ?_ (by kernel_rfl) (by kernel_rfl) (by kernel_rfl) ?_ ?_
      rotate_left 2
      · intro r_ hr_
        have o0_ : r_ (.func 49) = .func (.func 49) #[] #[] := op_at hr_ 0 (by kernel_rfl) (by kernel_rfl)
        have o1_ : r_ (.tmp 19) = .agg #[.int .i64 0, .int .u64 0, .int .u64 0, .int .u64 0, .int .u64 9223372036854775808] := op_at hr_ 1 (by kernel_rfl) (by kernel_rfl)
        have o2_ : r_ (.tmp 20) = .agg #[.int .i64 (-500), .int .u64 4, .int .u64 0, .int .u64 0, .int .u64 0] := op_at hr_ 2 (by kernel_rfl) (by kernel_rfl)
        clear hr_
        go_simp; first | done | with_reducible rfl | (constructor <;> with_reducible rfl)
      · refine lit_1ffe7708 _
    simp only [Act.put, planVG, List.setIfInBounds_toArray, List.set_cons_zero, List.set_cons_succ, List.getElem?_cons_zero, List.getElem?_cons_succ]
    refine ⟨?_, ?_⟩
    · as_aux_lemma =>
      intro y_ hS_ hO_ hD
      clear hS_ hO_ hD
      refine s_gen (V := .tuple #[.agg #[.int .i64 0, .int .u64 18446744073709551615, .int .u64 18446744073709551615, .int .u64 18446744073709551615, .int .u64 9223372036854775807], .bool false]) [.tuple #[.agg #[.int .i64 0, .int .u64 18446744073709551615, .int .u64 18446744073709551615, .int .u64 18446744073709551615, .int .u64 9223372036854775807], .bool false]] (by kernel_rfl) (by kernel_rfl) (by kernel_rfl) ?_
      intro r_ hr_
      have o0_ : r_ (.tmp 21) = .tuple #[.agg #[.int .i64 0, .int .u64 18446744073709551615, .int .u64 18446744073709551615, .int .u64 18446744073709551615, .int .u64 9223372036854775807], .bool false] := op_at hr_ 0 (by kernel_rfl) (by kernel_rfl)
      clear hr_
      go_simp; first | done | with_reducible rfl | omega
    simp only [Act.put, planVG, List.setIfInBounds_toArray, List.set_cons_zero, List.set_cons_succ, List.getElem?_cons_zero, List.getElem?_cons_succ]
    refine ⟨?_, ?_⟩
    · as_aux_lemma =>
      intro y_ hS_ hO_ hD
      clear hS_ hO_ hD
      refine s_gen (V := .agg #[.int .i64 0, .int .u64 18446744073709551615, .int .u64 18446744073709551615, .int .u64 18446744073709551615, .int .u64 9223372036854775807]) [.tuple #[.agg #[.int .i64 0, .int .u64 18446744073709551615, .int .u64 18446744073709551615, .int .u64 18446744073709551615, .int .u64 9223372036854775807], .bool false]] (by kernel_rfl) (by kernel_rfl) (by kernel_rfl) ?_
      intro r_ hr_
      have o0_ : r_ (.tmp 18) = .tuple #[.agg #[.int .i64 0, .int .u64 18446744073709551615, .int .u64 18446744073709551615, .int .u64 18446744073709551615, .int .u64 9223372036854775807], .bool false] := op_at hr_ 0 (by kernel_rfl) (by kernel_rfl)
      clear hr_
      go_simp; first | done | with_reducible rfl | omega
    simp only [Act.put, planVG, List.setIfInBounds_toArray, List.set_cons_zero, List.set_cons_succ, List.getElem?_cons_zero, List.getElem?_cons_succ]
    refine ⟨?_, ?_⟩
    · as_aux_lemma =>
      intro y_ hS_ hO_ hD
      clear hS_ hO_ hD
      refine s_gen (V := .bool false) [.tuple #[.agg #[.int .i64 0, .int .u64 18446744073709551615, .int .u64 18446744073709551615, .int .u64 18446744073709551615, .int .u64 9223372036854775807], .bool false]] (by kernel_rfl) (by kernel_rfl) (by kernel_rfl) ?_
      intro r_ hr_
      have o0_ : r_ (.tmp 18) = .tuple #[.agg #[.int .i64 0, .int .u64 18446744073709551615, .int .u64 18446744073709551615, .int .u64 18446744073709551615, .int .u64 9223372036854775807], .bool false] := op_at hr_ 0 (by kernel_rfl) (by kernel_rfl)
      clear hr_
      go_simp; first | done | with_reducible rfl | omega
    simp only [Act.put, planVG, List.setIfInBounds_toArray, List.set_cons_zero, List.set_cons_succ, List.getElem?_cons_zero, List.getElem?_cons_succ]
    refine ⟨?_, ?_⟩
    · as_aux_lemma =>
      intro y_ hS_ hO_ hD
      clear hS_ hO_ hD
      refine s_alloc (by rfl) (by rfl) ?_
      simp only [allocTy]
      go_simp; first | done | with_reducible rfl | rfl
    simp only [Act.put, planVG, List.setIfInBounds_toArray, List.set_cons_zero, List.set_cons_succ, List.getElem?_cons_zero, List.getElem?_cons_succ]
    refine ⟨?_, ?_⟩
    · as_aux_lemma =>
      intro y_ hS_ hO_ hD
      have hS := hS_ (by rfl)
      clear hS hS_ hO_ hD
      refine s_gput (j := 6) (Z := #[.int .i64 0, .int .u64 0, .int .u64 0, .int .u64 0, .int .u64 0]) (V := [.int .i64 0, .int .u64 18446744073709551615, .int .u64 18446744073709551615, .int .u64 18446744073709551615, .int .u64 9223372036854775807]) [ρ 6, .agg #[.int .i64 0, .int .u64 18446744073709551615, .int .u64 18446744073709551615, .int .u64 18446744073709551615, .int .u64 9223372036854775807]] (by kernel_rfl) (by kernel_rfl) (by kernel_rfl) (by kernel_rfl) ?_
      intro r_ b hr_ hb hB F
      have o0_ : r_ (.tmp 5) = ρ 6 := op_at hr_ 0 (by kernel_rfl) (by kernel_rfl)
      have o1_ : r_ (.tmp 22) = .agg #[.int .i64 0, .int .u64 18446744073709551615, .int .u64 18446744073709551615, .int .u64 18446744073709551615, .int .u64 9223372036854775807] := op_at hr_ 1 (by kernel_rfl) (by kernel_rfl)
      clear hr_
      rw [hb] at o0_
      have Q := F.cell
      have q0 := Q 0 _ rfl
      have q1 := Q 1 _ rfl
      have q2 := Q 2 _ rfl
      have q3 := Q 3 _ rfl
      have q4 := Q 4 _ rfl
      have Qf := F.free
      have Ql := F.lt
      clear Q F
      simp only [putCells]
      go_simp; first | done | with_reducible rfl | rfl
    simp only [Act.put, planVG, List.setIfInBounds_toArray, List.set_cons_zero, List.set_cons_succ, List.getElem?_cons_zero, List.getElem?_cons_succ]
    as_aux_lemma =>
      intro w3 hS hF hD_
      change wpList _ _ _ _ _ _
      replace hS := sg_no (by decide) hS
      obtain ⟨hk, hZ3, Bv3_6, X2⟩ := hS
      obtain ⟨v5_6, e_v5_6, hv5_6, Bv5_6⟩ : ∃ b, ρ 6 = .pointer (some ⟨b, 0, none⟩) ∧ w2.heap.size + 1 ≤ b ∧ Box w3 b #[.int .i64 0, .int .u64 18446744073709551615, .int .u64 18446744073709551615, .int .u64 18446744073709551615, .int .u64 9223372036854775807] := by
        obtain ⟨b, h1, h2, h3⟩ := hF 6 (by decide)
        exact ⟨b, h1, h2, h3.lt, h3.cell, h3.free⟩
      clear hF hD_
      simp only [e_v5_6]
      clear e_v5_6
      clear ρ
      have hz_w3 := hk.size
      have Bv3_6l := Bv3_6.lt
      have Bv3_6f := Bv3_6.free
      have Bv3_6l1 : v3_6 < w3.heap.size + 1 := by omega
      have Bv3_6l2 : v3_6 < w3.heap.size + 1 + 1 := by omega
      have Bv3_6l3 : v3_6 < w3.heap.size + 1 + 1 + 1 := by omega
      have Bv3_60 := Bv3_6.cell 0 _ rfl
      have Bv3_61 := Bv3_6.cell 1 _ rfl
      have Bv3_62 := Bv3_6.cell 2 _ rfl
      have Bv3_63 := Bv3_6.cell 3 _ rfl
      have Bv3_64 := Bv3_6.cell 4 _ rfl
      have X2l := X2.lt
      have X2f := X2.free
      have X2l1 : w2.heap.size < w3.heap.size + 1 := by omega
      have X2l2 : w2.heap.size < w3.heap.size + 1 + 1 := by omega
      have X2l3 : w2.heap.size < w3.heap.size + 1 + 1 + 1 := by omega
      have X20 := X2.cell 0 _ rfl
      have X21 := X2.cell 1 _ rfl
      have X22 := X2.cell 2 _ rfl
      have X23 := X2.cell 3 _ rfl
      have X24 := X2.cell 4 _ rfl
      have Bv5_6l := Bv5_6.lt
      have Bv5_6f := Bv5_6.free
      have Bv5_6l1 : v5_6 < w3.heap.size + 1 := by omega
      have Bv5_6l2 : v5_6 < w3.heap.size + 1 + 1 := by omega
      have Bv5_6l3 : v5_6 < w3.heap.size + 1 + 1 + 1 := by omega
      have Bv5_60 := Bv5_6.cell 0 _ rfl
      have Bv5_61 := Bv5_6.cell 1 _ rfl
      have Bv5_62 := Bv5_6.cell 2 _ rfl
      have Bv5_63 := Bv5_6.cell 3 _ rfl
      have Bv5_64 := Bv5_6.cell 4 _ rfl
      go_wp2_with fail
      (with_reducible refine (farSum _).mono ?_)
      rintro e w4 ⟨rfl, hb⟩
      have Bv3_6' : Box w4 (v3_6) #[.int .i64 1, .int .u64 0, .int .u64 0, .int .u64 0, .int .u64 4611686018427387904] := Box.call hb (by repeat (first | with_reducible assumption | with_reducible apply Box.set10 | with_reducible apply Box.set20 | with_reducible apply Box.set21 | with_reducible apply Box.set40 | with_reducible apply Box.set41 | with_reducible apply Box.set42 | with_reducible apply Box.set43 | with_reducible apply Box.set50 | with_reducible apply Box.set51 | with_reducible apply Box.set52 | with_reducible apply Box.set53 | with_reducible apply Box.set54 | with_reducible apply Box.set80 | with_reducible apply Box.set81 | with_reducible apply Box.set82 | with_reducible apply Box.set83 | with_reducible apply Box.set84 | with_reducible apply Box.set85 | with_reducible apply Box.set86 | with_reducible apply Box.set87 | with_reducible apply Box.drew | (with_reducible apply Box.newAt; (try simp only [World.size_alloc, World.size_setCell, World.size_drew]); done) | with_reducible apply Box.alloc | (with_reducible apply Box.other; case hne => ((try simp only [World.size_alloc, World.size_setCell, World.size_drew]); omega))))
      have Bv5_6' : Box w4 (v5_6) #[.int .i64 0, .int .u64 18446744073709551615, .int .u64 18446744073709551615, .int .u64 18446744073709551615, .int .u64 9223372036854775807] := Box.call hb (by repeat (first | with_reducible assumption | with_reducible apply Box.set10 | with_reducible apply Box.set20 | with_reducible apply Box.set21 | with_reducible apply Box.set40 | with_reducible apply Box.set41 | with_reducible apply Box.set42 | with_reducible apply Box.set43 | with_reducible apply Box.set50 | with_reducible apply Box.set51 | with_reducible apply Box.set52 | with_reducible apply Box.set53 | with_reducible apply Box.set54 | with_reducible apply Box.set80 | with_reducible apply Box.set81 | with_reducible apply Box.set82 | with_reducible apply Box.set83 | with_reducible apply Box.set84 | with_reducible apply Box.set85 | with_reducible apply Box.set86 | with_reducible apply Box.set87 | with_reducible apply Box.drew | (with_reducible apply Box.newAt; (try simp only [World.size_alloc, World.size_setCell, World.size_drew]); done) | with_reducible apply Box.alloc | (with_reducible apply Box.other; case hne => ((try simp only [World.size_alloc, World.size_setCell, World.size_drew]); omega))))
      have hk' : Kept w.heap.size w w4 := Kept.step (by repeat (first | with_reducible exact hk | with_reducible exact Kept.refl _ | with_reducible refine Kept.alloc ?_ _ | with_reducible refine Kept.drew ?_ | with_reducible refine Kept.setCell ?_ (by simp only [World.size_alloc, World.size_setCell, World.size_drew]; omega) _)) hb
      clear hk hb
      clear Bv3_6 Bv3_6l1 Bv3_6l2 Bv3_6l3 Bv3_6f Bv3_60 Bv3_61 Bv3_62 Bv3_63 Bv3_64
      clear X2 X2l1 X2l2 X2l3 X2f X20 X21 X22 X23 X24
      clear Bv5_6 Bv5_6l1 Bv5_6l2 Bv5_6l3 Bv5_6f Bv5_60 Bv5_61 Bv5_62 Bv5_63 Bv5_64
      have Bv3_6 := Bv3_6'
      clear Bv3_6'
      have Bv5_6 := Bv5_6'
      clear Bv5_6'
      have hk := hk'
      clear hk'
      have hz_w4 := hk.size
      have Bv3_6l := Bv3_6.lt
      have Bv3_6f := Bv3_6.free
      have Bv3_6l1 : v3_6 < w4.heap.size + 1 := by omega
      have Bv3_6l2 : v3_6 < w4.heap.size + 1 + 1 := by omega
      have Bv3_6l3 : v3_6 < w4.heap.size + 1 + 1 + 1 := by omega
      have Bv3_60 := Bv3_6.cell 0 _ rfl
      have Bv3_61 := Bv3_6.cell 1 _ rfl
      have Bv3_62 := Bv3_6.cell 2 _ rfl
      have Bv3_63 := Bv3_6.cell 3 _ rfl
      have Bv3_64 := Bv3_6.cell 4 _ rfl
      have Bv5_6l := Bv5_6.lt
      have Bv5_6f := Bv5_6.free
      have Bv5_6l1 : v5_6 < w4.heap.size + 1 := by omega
      have Bv5_6l2 : v5_6 < w4.heap.size + 1 + 1 := by omega
      have Bv5_6l3 : v5_6 < w4.heap.size + 1 + 1 + 1 := by omega
      have Bv5_60 := Bv5_6.cell 0 _ rfl
      have Bv5_61 := Bv5_6.cell 1 _ rfl
      have Bv5_62 := Bv5_6.cell 2 _ rfl
      have Bv5_63 := Bv5_6.cell 3 _ rfl
      have Bv5_64 := Bv5_6.cell 4 _ rfl
      go_upto_region 7 with fail
      refine wp_region_p 51 (fun W' => Kept w.heap.size w W' ∧ w4.heap.size + 1 ≤ W'.heap.size ∧ Box W' (v3_6) #[.int .i64 1, .int .u64 0, .int .u64 0, .int .u64 0, .int .u64 4611686018427387904] ∧ Box W' (v5_6) #[.int .i64 0, .int .u64 18446744073709551615, .int .u64 18446744073709551615, .int .u64 18446744073709551615, .int .u64 9223372036854775807] ∧ Box W' (w4.heap.size) #[.int .i64 1099511627777, .int .u64 1, .int .u64 0, .int .u64 0, .int .u64 0]) (fun W' => Kept w.heap.size w W' ∧ w4.heap.size + 1 ≤ W'.heap.size ∧ Box W' (v3_6) #[.int .i64 1, .int .u64 0, .int .u64 0, .int .u64 0, .int .u64 4611686018427387904] ∧ Box W' (v5_6) #[.int .i64 0, .int .u64 18446744073709551615, .int .u64 18446744073709551615, .int .u64 18446744073709551615, .int .u64 9223372036854775807] ∧ Box W' (w4.heap.size) #[.int .i64 1099511627777, .int .u64 1, .int .u64 0, .int .u64 0, .int .u64 0]) 1000 (w4.heap.size + 1) [.known (.agg #[.int .i64 1, .int .u64 0, .int .u64 0, .int .u64 0, .int .u64 4611686018427387904]), .known (.agg #[.int .u64 0, .int .u64 0, .int .u64 0, .int .u64 4611686018427387904]), .known (.agg #[.int .i64 1, .int .u64 0, .int .u64 0, .int .u64 0, .int .u64 4611686018427387904]), .known (.bool true), .known (.bool true), .known (.bool true), .known (.bool true), .known (.bool true), .known (.agg #[.int .i64 0, .int .u64 18446744073709551615, .int .u64 18446744073709551615, .int .u64 18446744073709551615, .int .u64 9223372036854775807]), .known (.agg #[.int .u64 18446744073709551615, .int .u64 18446744073709551615, .int .u64 18446744073709551615, .int .u64 9223372036854775807]), .known (.agg #[.int .i64 0, .int .u64 18446744073709551615, .int .u64 18446744073709551615, .int .u64 18446744073709551615, .int .u64 9223372036854775807]), .known (.bool true), .known (.bool true), .known (.bool true), .known (.bool false), .known (.bool true), .known (.bool true), .known (.bool true), .known (.agg #[.int .i64 1099511627777, .int .u64 1, .int .u64 0, .int .u64 0, .int .u64 0]), .known (.agg #[.int .u64 1, .int .u64 0, .int .u64 0, .int .u64 0]), .known (.agg #[.int .i64 1099511627777, .int .u64 1, .int .u64 0, .int .u64 0, .int .u64 0]), .known (.bool true), .known (.bool true), .known (.bool true), .known (.agg #[.int .u64 1, .int .u64 0, .int .u64 0, .int .u64 0]), .known (.agg #[.int .i64 1, .int .u64 1, .int .u64 0, .int .u64 0, .int .u64 0]), .known (.agg #[.int .u64 2, .int .u64 0, .int .u64 0, .int .u64 0]), .known (.agg #[.int .i64 0, .int .u64 2, .int .u64 0, .int .u64 0, .int .u64 0]), .known (.int .i64 0), .known (.bool true), .known (.bool true), .known (.bool true), .known (.agg #[.int .u64 1, .int .u64 0, .int .u64 0, .int .u64 0]), .known (.agg #[.int .i64 300, .int .u64 1, .int .u64 0, .int .u64 0, .int .u64 0]), .known (.agg #[.int .u64 18446744073709551615, .int .u64 18446744073709551615, .int .u64 18446744073709551615, .int .u64 18446744073709551615]), .known (.agg #[.int .i64 0, .int .u64 18446744073709551615, .int .u64 18446744073709551615, .int .u64 18446744073709551615, .int .u64 18446744073709551615]), .known (.int .i64 1), .known (.bool true), .known (.bool true), .known (.bool true), .known (.agg #[.int .u64 7, .int .u64 6]), .known (.agg #[.bool false, .int .u8 0, .int .i64 5, .int .u64 7, .int .u64 6]), .known (.agg #[.int .i64 5, .int .u64 0, .int .u64 0, .int .u64 6, .int .u64 7]), .known (.agg #[.int .u64 0, .int .u64 0, .int .u64 6, .int .u64 7]), .known (.agg #[.int .i64 5, .int .u64 0, .int .u64 0, .int .u64 6, .int .u64 7]), .known (.bool true), .known (.bool true), .known (.bool true), .known (.bool true), .known (.bool true), .known (.bool true)] (by kernel_rfl) (by kernel_rfl) (fun W W' h hb => ⟨h.1.step hb, Nat.le_trans (h.2.1) hb.size, Box.call hb (h.2.2.1), Box.call hb (h.2.2.2.1), Box.call hb (h.2.2.2.2)⟩) (fun W W' h hb => ⟨h.1.step hb, Nat.le_trans (h.2.1) hb.size, Box.call hb (h.2.2.1), Box.call hb (h.2.2.2.1), Box.call hb (h.2.2.2.2)⟩) (no_out (of_decide_eq_true (by kernel_rfl))) (.inl (by kernel_rfl)) (.inl (by kernel_rfl)) (fun _ h => h.2.1) (fun _ h => h.2.1) (⟨(by repeat (first | with_reducible exact hk | with_reducible exact Kept.refl _ | with_reducible refine Kept.alloc ?_ _ | with_reducible refine Kept.drew ?_ | with_reducible refine Kept.setCell ?_ (by simp only [World.size_alloc, World.size_setCell, World.size_drew]; omega) _)), (by (try simp only [World.size_alloc, World.size_setCell, World.size_drew]); omega), (by repeat (first | with_reducible assumption | with_reducible apply Box.set10 | with_reducible apply Box.set20 | with_reducible apply Box.set21 | with_reducible apply Box.set40 | with_reducible apply Box.set41 | with_reducible apply Box.set42 | with_reducible apply Box.set43 | with_reducible apply Box.set50 | with_reducible apply Box.set51 | with_reducible apply Box.set52 | with_reducible apply Box.set53 | with_reducible apply Box.set54 | with_reducible apply Box.set80 | with_reducible apply Box.set81 | with_reducible apply Box.set82 | with_reducible apply Box.set83 | with_reducible apply Box.set84 | with_reducible apply Box.set85 | with_reducible apply Box.set86 | with_reducible apply Box.set87 | with_reducible apply Box.drew | (with_reducible apply Box.newAt; (try simp only [World.size_alloc, World.size_setCell, World.size_drew]); done) | with_reducible apply Box.alloc | (with_reducible apply Box.other; case hne => ((try simp only [World.size_alloc, World.size_setCell, World.size_drew]); omega)))), (by repeat (first | with_reducible assumption | with_reducible apply Box.set10 | with_reducible apply Box.set20 | with_reducible apply Box.set21 | with_reducible apply Box.set40 | with_reducible apply Box.set41 | with_reducible apply Box.set42 | with_reducible apply Box.set43 | with_reducible apply Box.set50 | with_reducible apply Box.set51 | with_reducible apply Box.set52 | with_reducible apply Box.set53 | with_reducible apply Box.set54 | with_reducible apply Box.set80 | with_reducible apply Box.set81 | with_reducible apply Box.set82 | with_reducible apply Box.set83 | with_reducible apply Box.set84 | with_reducible apply Box.set85 | with_reducible apply Box.set86 | with_reducible apply Box.set87 | with_reducible apply Box.drew | (with_reducible apply Box.newAt; (try simp only [World.size_alloc, World.size_setCell, World.size_drew]); done) | with_reducible apply Box.alloc | (with_reducible apply Box.other; case hne => ((try simp only [World.size_alloc, World.size_setCell, World.size_drew]); omega)))), (by repeat (first | with_reducible assumption | with_reducible apply Box.set10 | with_reducible apply Box.set20 | with_reducible apply Box.set21 | with_reducible apply Box.set40 | with_reducible apply Box.set41 | with_reducible apply Box.set42 | with_reducible apply Box.set43 | with_reducible apply Box.set50 | with_reducible apply Box.set51 | with_reducible apply Box.set52 | with_reducible apply Box.set53 | with_reducible apply Box.set54 | with_reducible apply Box.set80 | with_reducible apply Box.set81 | with_reducible apply Box.set82 | with_reducible apply Box.set83 | with_reducible apply Box.set84 | with_reducible apply Box.set85 | with_reducible apply Box.set86 | with_reducible apply Box.set87 | with_reducible apply Box.drew | (with_reducible apply Box.newAt; (try simp only [World.size_alloc, World.size_setCell, World.size_drew]); done) | with_reducible apply Box.alloc | (with_reducible apply Box.other; case hne => ((try simp only [World.size_alloc, World.size_setCell, World.size_drew]); omega))))⟩) ?_
      clear hk
      clear Bv3_6 Bv3_6l1 Bv3_6l2 Bv3_6l3 Bv3_6f Bv3_60 Bv3_61 Bv3_62 Bv3_63 Bv3_64
      clear Bv5_6 Bv5_6l1 Bv5_6l2 Bv5_6l3 Bv5_6f Bv5_60 Bv5_61 Bv5_62 Bv5_63 Bv5_64
      intro ρ
      simp only [List.take_succ_cons, List.take_zero, List.drop_succ_cons, List.drop_zero]
      refine ⟨?_, ?_⟩
      · as_aux_lemma =>
        intro y_ hS_ hO_ hD
        have Q := ((hS_ (by rfl)).2.2.1).cell
        have q0 := Q 0 _ rfl
        have q1 := Q 1 _ rfl
        have q2 := Q 2 _ rfl
        have q3 := Q 3 _ rfl
        have q4 := Q 4 _ rfl
        clear Q hS_ hO_ hD
        refine s_gen (V := .agg #[.int .i64 1, .int .u64 0, .int .u64 0, .int .u64 0, .int .u64 4611686018427387904]) [.pointer (some ⟨v3_6, 0, none⟩)] (by kernel_rfl) (by kernel_rfl) (by kernel_rfl) ?_
        intro r_ hr_
        have o0_ : r_ (.tmp 2) = .pointer (some ⟨v3_6, 0, none⟩) := op_at hr_ 0 (by kernel_rfl) (by kernel_rfl)
        clear hr_
        go_simp; first | done | with_reducible rfl
      simp only [Act.put, planVG, List.setIfInBounds_toArray, List.set_cons_zero, List.set_cons_succ, List.getElem?_cons_zero, List.getElem?_cons_succ]
      refine ⟨?_, ?_⟩
      · as_aux_lemma =>
        intro y_ hS_ hO_ hD
        clear hS_ hO_ hD
        refine s_gen (V := .agg #[.int .u64 0, .int .u64 0, .int .u64 0, .int .u64 4611686018427387904]) [.int .u64 0, .int .u64 0, .int .u64 0, .int .u64 4611686018427387904] (by kernel_rfl) (by kernel_rfl) (by kernel_rfl) ?_
        intro r_ hr_
        have o0_ : r_ (.const (.int .u64 0)) = .int .u64 0 := op_at hr_ 0 (by kernel_rfl) (by kernel_rfl)
        have o1_ : r_ (.const (.int .u64 0)) = .int .u64 0 := op_at hr_ 1 (by kernel_rfl) (by kernel_rfl)
        have o2_ : r_ (.const (.int .u64 0)) = .int .u64 0 := op_at hr_ 2 (by kernel_rfl) (by kernel_rfl)
        have o3_ : r_ (.const (.int .u64 4611686018427387904)) = .int .u64 4611686018427387904 := op_at hr_ 3 (by kernel_rfl) (by kernel_rfl)
        clear hr_
        go_simp; first | done | with_reducible rfl | omega
      simp only [Act.put, planVG, List.setIfInBounds_toArray, List.set_cons_zero, List.set_cons_succ, List.getElem?_cons_zero, List.getElem?_cons_succ]
      refine ⟨?_, ?_⟩
      · as_aux_lemma =>
        intro y_ hS_ hO_ hD
        clear hS_ hO_ hD
        refine s_gen (V := .agg #[.int .i64 1, .int .u64 0, .int .u64 0, .int .u64 0, .int .u64 4611686018427387904]) [.int .i64 1, .agg #[.int .u64 0, .int .u64 0, .int .u64 0, .int .u64 4611686018427387904]] (by kernel_rfl) (by kernel_rfl) (by kernel_rfl) ?_
        intro r_ hr_
        have o0_ : r_ (.const (.int .i64 1)) = .int .i64 1 := op_at hr_ 0 (by kernel_rfl) (by kernel_rfl)
        have o1_ : r_ (.tmp 30) = .agg #[.int .u64 0, .int .u64 0, .int .u64 0, .int .u64 4611686018427387904] := op_at hr_ 1 (by kernel_rfl) (by kernel_rfl)
        clear hr_
        go_simp; first | done | with_reducible rfl | omega
      simp only [Act.put, planVG, List.setIfInBounds_toArray, List.set_cons_zero, List.set_cons_succ, List.getElem?_cons_zero, List.getElem?_cons_succ]
      refine ⟨?_, ?_⟩
      · as_aux_lemma =>
        intro y_ hS_ hO_ hD
        clear hS_ hO_ hD
        refine s_gen (V := .bool true) [.agg #[.int .i64 1, .int .u64 0, .int .u64 0, .int .u64 0, .int .u64 4611686018427387904], .agg #[.int .i64 1, .int .u64 0, .int .u64 0, .int .u64 0, .int .u64 4611686018427387904]] (by kernel_rfl) (by kernel_rfl) (by kernel_rfl) ?_
        intro r_ hr_
        have o0_ : r_ (.tmp 29) = .agg #[.int .i64 1, .int .u64 0, .int .u64 0, .int .u64 0, .int .u64 4611686018427387904] := op_at hr_ 0 (by kernel_rfl) (by kernel_rfl)
        have o1_ : r_ (.tmp 31) = .agg #[.int .i64 1, .int .u64 0, .int .u64 0, .int .u64 0, .int .u64 4611686018427387904] := op_at hr_ 1 (by kernel_rfl) (by kernel_rfl)
        clear hr_
        go_simp; first | done | with_reducible rfl | omega
      simp only [Act.put, planVG, List.setIfInBounds_toArray, List.set_cons_zero, List.set_cons_succ, List.getElem?_cons_zero, List.getElem?_cons_succ]
      refine ⟨?_, ?_⟩
      · as_aux_lemma =>
        intro y_ hS_ hO_ hD
        clear hS_ hO_ hD
        refine s_gen (V := .bool true) [.bool true] (by kernel_rfl) (by kernel_rfl) (by kernel_rfl) ?_
        intro r_ hr_
        have o0_ : r_ (.tmp 32) = .bool true := op_at hr_ 0 (by kernel_rfl) (by kernel_rfl)
        clear hr_
        go_simp; first | done | with_reducible rfl | omega
      simp only [Act.put, planVG, List.setIfInBounds_toArray, List.set_cons_zero, List.set_cons_succ, List.getElem?_cons_zero, List.getElem?_cons_succ]
      refine ⟨?_, ?_⟩
      · as_aux_lemma =>
        intro y_ hS_ hO_ hD
        clear hS_ hO_ hD
        refine s_gen (V := .bool true) [.bool true] (by kernel_rfl) (by kernel_rfl) (by kernel_rfl) ?_
        intro r_ hr_
        have o0_ : r_ (.tmp 3) = .bool true := op_at hr_ 0 (by kernel_rfl) (by kernel_rfl)
        clear hr_
        go_simp; first | done | with_reducible rfl | omega
      simp only [Act.put, planVG, List.setIfInBounds_toArray, List.set_cons_zero, List.set_cons_succ, List.getElem?_cons_zero, List.getElem?_cons_succ]
      refine ⟨?_, ?_⟩
      · as_aux_lemma =>
        intro y_ hS_ hO_ hD
        clear hS_ hO_ hD
        refine s_gen (V := .bool true) [.bool true, .bool true, .bool false] (by kernel_rfl) (by kernel_rfl) (by kernel_rfl) ?_
        intro r_ hr_
        have o0_ : r_ (.tmp 33) = .bool true := op_at hr_ 0 (by kernel_rfl) (by kernel_rfl)
        have o1_ : r_ (.tmp 34) = .bool true := op_at hr_ 1 (by kernel_rfl) (by kernel_rfl)
        have o2_ : r_ (.const (.bool false)) = .bool false := op_at hr_ 2 (by kernel_rfl) (by kernel_rfl)
        clear hr_
        go_simp; first | done | with_reducible rfl | omega
      simp only [Act.put, planVG, List.setIfInBounds_toArray, List.set_cons_zero, List.set_cons_succ, List.getElem?_cons_zero, List.getElem?_cons_succ]
      refine ⟨?_, ?_⟩
      · as_aux_lemma =>
        intro y_ hS_ hO_ hD
        clear hS_ hO_ hD
        refine s_gen (V := .bool true) [.bool true] (by kernel_rfl) (by kernel_rfl) (by kernel_rfl) ?_
        intro r_ hr_
        have o0_ : r_ (.tmp 35) = .bool true := op_at hr_ 0 (by kernel_rfl) (by kernel_rfl)
        clear hr_
        go_simp; first | done | with_reducible rfl | omega
      simp only [Act.put, planVG, List.setIfInBounds_toArray, List.set_cons_zero, List.set_cons_succ, List.getElem?_cons_zero, List.getElem?_cons_succ]
      refine ⟨?_, ?_⟩
      · as_aux_lemma =>
        intro y_ hS_ hO_ hD
        have Q := ((hS_ (by rfl)).2.2.2.1).cell
        have q0 := Q 0 _ rfl
        have q1 := Q 1 _ rfl
        have q2 := Q 2 _ rfl
        have q3 := Q 3 _ rfl
        have q4 := Q 4 _ rfl
        clear Q hS_ hO_ hD
        refine s_gen (V := .agg #[.int .i64 0, .int .u64 18446744073709551615, .int .u64 18446744073709551615, .int .u64 18446744073709551615, .int .u64 9223372036854775807]) [.pointer (some ⟨v5_6, 0, none⟩)] (by kernel_rfl) (by kernel_rfl) (by kernel_rfl) ?_
        intro r_ hr_
        have o0_ : r_ (.tmp 5) = .pointer (some ⟨v5_6, 0, none⟩) := op_at hr_ 0 (by kernel_rfl) (by kernel_rfl)
        clear hr_
        go_simp; first | done | with_reducible rfl
      simp only [Act.put, planVG, List.setIfInBounds_toArray, List.set_cons_zero, List.set_cons_succ, List.getElem?_cons_zero, List.getElem?_cons_succ]
      refine ⟨?_, ?_⟩
      · as_aux_lemma =>
        intro y_ hS_ hO_ hD
        clear hS_ hO_ hD
        refine s_gen (V := .agg #[.int .u64 18446744073709551615, .int .u64 18446744073709551615, .int .u64 18446744073709551615, .int .u64 9223372036854775807]) [.int .u64 18446744073709551615, .int .u64 18446744073709551615, .int .u64 18446744073709551615, .int .u64 9223372036854775807] (by kernel_rfl) (by kernel_rfl) (by kernel_rfl) ?_
        intro r_ hr_
        have o0_ : r_ (.const (.int .u64 18446744073709551615)) = .int .u64 18446744073709551615 := op_at hr_ 0 (by kernel_rfl) (by kernel_rfl)
        have o1_ : r_ (.const (.int .u64 18446744073709551615)) = .int .u64 18446744073709551615 := op_at hr_ 1 (by kernel_rfl) (by kernel_rfl)
        have o2_ : r_ (.const (.int .u64 18446744073709551615)) = .int .u64 18446744073709551615 := op_at hr_ 2 (by kernel_rfl) (by kernel_rfl)
        have o3_ : r_ (.const (.int .u64 9223372036854775807)) = .int .u64 9223372036854775807 := op_at hr_ 3 (by kernel_rfl) (by kernel_rfl)
        clear hr_
        go_simp; first | done | with_reducible rfl | omega
      simp only [Act.put, planVG, List.setIfInBounds_toArray, List.set_cons_zero, List.set_cons_succ, List.getElem?_cons_zero, List.getElem?_cons_succ]
      refine ⟨?_, ?_⟩
      · as_aux_lemma =>
        intro y_ hS_ hO_ hD
        clear hS_ hO_ hD
        refine s_gen (V := .agg #[.int .i64 0, .int .u64 18446744073709551615, .int .u64 18446744073709551615, .int .u64 18446744073709551615, .int .u64 9223372036854775807]) [.agg #[.int .u64 18446744073709551615, .int .u64 18446744073709551615, .int .u64 18446744073709551615, .int .u64 9223372036854775807]] (by kernel_rfl) (by kernel_rfl) (by kernel_rfl) ?_
        intro r_ hr_
        have o0_ : r_ (.tmp 38) = .agg #[.int .u64 18446744073709551615, .int .u64 18446744073709551615, .int .u64 18446744073709551615, .int .u64 9223372036854775807] := op_at hr_ 0 (by kernel_rfl) (by kernel_rfl)
        clear hr_
        go_simp; first | done | with_reducible rfl | omega
      simp only [Act.put, planVG, List.setIfInBounds_toArray, List.set_cons_zero, List.set_cons_succ, List.getElem?_cons_zero, List.getElem?_cons_succ]
      refine ⟨?_, ?_⟩
      · as_aux_lemma =>
        intro y_ hS_ hO_ hD
        clear hS_ hO_ hD
        refine s_gen (V := .bool true) [.agg #[.int .i64 0, .int .u64 18446744073709551615, .int .u64 18446744073709551615, .int .u64 18446744073709551615, .int .u64 9223372036854775807], .agg #[.int .i64 0, .int .u64 18446744073709551615, .int .u64 18446744073709551615, .int .u64 18446744073709551615, .int .u64 9223372036854775807]] (by kernel_rfl) (by kernel_rfl) (by kernel_rfl) ?_
        intro r_ hr_
        have o0_ : r_ (.tmp 37) = .agg #[.int .i64 0, .int .u64 18446744073709551615, .int .u64 18446744073709551615, .int .u64 18446744073709551615, .int .u64 9223372036854775807] := op_at hr_ 0 (by kernel_rfl) (by kernel_rfl)
        have o1_ : r_ (.tmp 39) = .agg #[.int .i64 0, .int .u64 18446744073709551615, .int .u64 18446744073709551615, .int .u64 18446744073709551615, .int .u64 9223372036854775807] := op_at hr_ 1 (by kernel_rfl) (by kernel_rfl)
        clear hr_
        go_simp; first | done | with_reducible rfl | omega
      simp only [Act.put, planVG, List.setIfInBounds_toArray, List.set_cons_zero, List.set_cons_succ, List.getElem?_cons_zero, List.getElem?_cons_succ]
      refine ⟨?_, ?_⟩
      · as_aux_lemma =>
        intro y_ hS_ hO_ hD
        clear hS_ hO_ hD
        refine s_gen (V := .bool true) [.bool true, .bool true, .bool false] (by kernel_rfl) (by kernel_rfl) (by kernel_rfl) ?_
        intro r_ hr_
        have o0_ : r_ (.tmp 36) = .bool true := op_at hr_ 0 (by kernel_rfl) (by kernel_rfl)
        have o1_ : r_ (.tmp 40) = .bool true := op_at hr_ 1 (by kernel_rfl) (by kernel_rfl)
        have o2_ : r_ (.const (.bool false)) = .bool false := op_at hr_ 2 (by kernel_rfl) (by kernel_rfl)
        clear hr_
        go_simp; first | done | with_reducible rfl | omega
      simp only [Act.put, planVG, List.setIfInBounds_toArray, List.set_cons_zero, List.set_cons_succ, List.getElem?_cons_zero, List.getElem?_cons_succ]
      refine ⟨?_, ?_⟩
      · as_aux_lemma =>
        intro y_ hS_ hO_ hD
        clear hS_ hO_ hD
        refine s_gen (V := .bool true) [.bool true] (by kernel_rfl) (by kernel_rfl) (by kernel_rfl) ?_
        intro r_ hr_
        have o0_ : r_ (.tmp 41) = .bool true := op_at hr_ 0 (by kernel_rfl) (by kernel_rfl)
        clear hr_
        go_simp; first | done | with_reducible rfl | omega
      simp only [Act.put, planVG, List.setIfInBounds_toArray, List.set_cons_zero, List.set_cons_succ, List.getElem?_cons_zero, List.getElem?_cons_succ]
      refine ⟨?_, ?_⟩
      · as_aux_lemma =>
        intro y_ hS_ hO_ hD
        clear hS_ hO_ hD
        refine s_gen (V := .bool false) [.bool false] (by kernel_rfl) (by kernel_rfl) (by kernel_rfl) ?_
        intro r_ hr_
        have o0_ : r_ (.tmp 6) = .bool false := op_at hr_ 0 (by kernel_rfl) (by kernel_rfl)
        clear hr_
        go_simp; first | done | with_reducible rfl | omega
      simp only [Act.put, planVG, List.setIfInBounds_toArray, List.set_cons_zero, List.set_cons_succ, List.getElem?_cons_zero, List.getElem?_cons_succ]
      refine ⟨?_, ?_⟩
      · as_aux_lemma =>
        intro y_ hS_ hO_ hD
        clear hS_ hO_ hD
        refine s_gen (V := .bool true) [.bool false] (by kernel_rfl) (by kernel_rfl) (by kernel_rfl) ?_
        intro r_ hr_
        have o0_ : r_ (.tmp 43) = .bool false := op_at hr_ 0 (by kernel_rfl) (by kernel_rfl)
        clear hr_
        go_simp; first | done | with_reducible rfl | omega
      simp only [Act.put, planVG, List.setIfInBounds_toArray, List.set_cons_zero, List.set_cons_succ, List.getElem?_cons_zero, List.getElem?_cons_succ]
      refine ⟨?_, ?_⟩
      · as_aux_lemma =>
        intro y_ hS_ hO_ hD
        clear hS_ hO_ hD
        refine s_gen (V := .bool true) [.bool true, .bool true, .bool false] (by kernel_rfl) (by kernel_rfl) (by kernel_rfl) ?_
        intro r_ hr_
        have o0_ : r_ (.tmp 42) = .bool true := op_at hr_ 0 (by kernel_rfl) (by kernel_rfl)
        have o1_ : r_ (.tmp 44) = .bool true := op_at hr_ 1 (by kernel_rfl) (by kernel_rfl)
        have o2_ : r_ (.const (.bool false)) = .bool false := op_at hr_ 2 (by kernel_rfl) (by kernel_rfl)
        clear hr_
        go_simp; first | done | with_reducible rfl | omega
      simp only [Act.put, planVG, List.setIfInBounds_toArray, List.set_cons_zero, List.set_cons_succ, List.getElem?_cons_zero, List.getElem?_cons_succ]
      refine ⟨?_, ?_⟩
      · as_aux_lemma =>
        intro y_ hS_ hO_ hD
        clear hS_ hO_ hD
        refine s_gen (V := .bool true) [.bool true] (by kernel_rfl) (by kernel_rfl) (by kernel_rfl) ?_
        intro r_ hr_
        have o0_ : r_ (.tmp 45) = .bool true := op_at hr_ 0 (by kernel_rfl) (by kernel_rfl)
        clear hr_
        go_simp; first | done | with_reducible rfl | omega
      simp only [Act.put, planVG, List.setIfInBounds_toArray, List.set_cons_zero, List.set_cons_succ, List.getElem?_cons_zero, List.getElem?_cons_succ]
      refine ⟨?_, ?_⟩
      · as_aux_lemma =>
        intro y_ hS_ hO_ hD
        have Q := ((hS_ (by rfl)).2.2.2.2).cell
        have q0 := Q 0 _ rfl
        have q1 := Q 1 _ rfl
        have q2 := Q 2 _ rfl
        have q3 := Q 3 _ rfl
        have q4 := Q 4 _ rfl
        clear Q hS_ hO_ hD
        refine s_gen (V := .agg #[.int .i64 1099511627777, .int .u64 1, .int .u64 0, .int .u64 0, .int .u64 0]) [.pointer (some ⟨w4.heap.size, 0, none⟩)] (by kernel_rfl) (by kernel_rfl) (by kernel_rfl) ?_
        intro r_ hr_
        have o0_ : r_ (.tmp 7) = .pointer (some ⟨w4.heap.size, 0, none⟩) := op_at hr_ 0 (by kernel_rfl) (by kernel_rfl)
        clear hr_
        go_simp; first | done | with_reducible rfl
      simp only [Act.put, planVG, List.setIfInBounds_toArray, List.set_cons_zero, List.set_cons_succ, List.getElem?_cons_zero, List.getElem?_cons_succ]
      refine ⟨?_, ?_⟩
      · as_aux_lemma =>
        intro y_ hS_ hO_ hD
        clear hS_ hO_ hD
        refine s_gen (V := .agg #[.int .u64 1, .int .u64 0, .int .u64 0, .int .u64 0]) [.int .u64 1] (by kernel_rfl) (by kernel_rfl) (by kernel_rfl) ?_
        intro r_ hr_
        have o0_ : r_ (.const (.int .u64 1)) = .int .u64 1 := op_at hr_ 0 (by kernel_rfl) (by kernel_rfl)
        clear hr_
        go_simp; first | done | with_reducible rfl | omega
      simp only [Act.put, planVG, List.setIfInBounds_toArray, List.set_cons_zero, List.set_cons_succ, List.getElem?_cons_zero, List.getElem?_cons_succ]
      refine ⟨?_, ?_⟩
      · as_aux_lemma =>
        intro y_ hS_ hO_ hD
        clear hS_ hO_ hD
        refine s_gen (V := .agg #[.int .i64 1099511627777, .int .u64 1, .int .u64 0, .int .u64 0, .int .u64 0]) [.int .i64 1099511627777, .agg #[.int .u64 1, .int .u64 0, .int .u64 0, .int .u64 0]] (by kernel_rfl) (by kernel_rfl) (by kernel_rfl) ?_
        intro r_ hr_
        have o0_ : r_ (.const (.int .i64 1099511627777)) = .int .i64 1099511627777 := op_at hr_ 0 (by kernel_rfl) (by kernel_rfl)
        have o1_ : r_ (.tmp 48) = .agg #[.int .u64 1, .int .u64 0, .int .u64 0, .int .u64 0] := op_at hr_ 1 (by kernel_rfl) (by kernel_rfl)
        clear hr_
        go_simp; first | done | with_reducible rfl | omega
      simp only [Act.put, planVG, List.setIfInBounds_toArray, List.set_cons_zero, List.set_cons_succ, List.getElem?_cons_zero, List.getElem?_cons_succ]
      refine ⟨?_, ?_⟩
      · as_aux_lemma =>
        intro y_ hS_ hO_ hD
        clear hS_ hO_ hD
        refine s_gen (V := .bool true) [.agg #[.int .i64 1099511627777, .int .u64 1, .int .u64 0, .int .u64 0, .int .u64 0], .agg #[.int .i64 1099511627777, .int .u64 1, .int .u64 0, .int .u64 0, .int .u64 0]] (by kernel_rfl) (by kernel_rfl) (by kernel_rfl) ?_
        intro r_ hr_
        have o0_ : r_ (.tmp 47) = .agg #[.int .i64 1099511627777, .int .u64 1, .int .u64 0, .int .u64 0, .int .u64 0] := op_at hr_ 0 (by kernel_rfl) (by kernel_rfl)
        have o1_ : r_ (.tmp 49) = .agg #[.int .i64 1099511627777, .int .u64 1, .int .u64 0, .int .u64 0, .int .u64 0] := op_at hr_ 1 (by kernel_rfl) (by kernel_rfl)
        clear hr_
        go_simp; first | done | with_reducible rfl | omega
      simp only [Act.put, planVG, List.setIfInBounds_toArray, List.set_cons_zero, List.set_cons_succ, List.getElem?_cons_zero, List.getElem?_cons_succ]
      refine ⟨?_, ?_⟩
      · as_aux_lemma =>
        intro y_ hS_ hO_ hD
        clear hS_ hO_ hD
        refine s_gen (V := .bool true) [.bool true, .bool true, .bool false] (by kernel_rfl) (by kernel_rfl) (by kernel_rfl) ?_
        intro r_ hr_
        have o0_ : r_ (.tmp 46) = .bool true := op_at hr_ 0 (by kernel_rfl) (by kernel_rfl)
        have o1_ : r_ (.tmp 50) = .bool true := op_at hr_ 1 (by kernel_rfl) (by kernel_rfl)
        have o2_ : r_ (.const (.bool false)) = .bool false := op_at hr_ 2 (by kernel_rfl) (by kernel_rfl)
        clear hr_
        go_simp; first | done | with_reducible rfl | omega
      simp only [Act.put, planVG, List.setIfInBounds_toArray, List.set_cons_zero, List.set_cons_succ, List.getElem?_cons_zero, List.getElem?_cons_succ]
      refine ⟨?_, ?_⟩
      · as_aux_lemma =>
        intro y_ hS_ hO_ hD
        clear hS_ hO_ hD
        refine s_gen (V := .bool true) [.bool true] (by kernel_rfl) (by kernel_rfl) (by kernel_rfl) ?_
        intro r_ hr_
        have o0_ : r_ (.tmp 51) = .bool true := op_at hr_ 0 (by kernel_rfl) (by kernel_rfl)
        clear hr_
        go_simp; first | done | with_reducible rfl | omega
      simp only [Act.put, planVG, List.setIfInBounds_toArray, List.set_cons_zero, List.set_cons_succ, List.getElem?_cons_zero, List.getElem?_cons_succ]
      refine ⟨?_, ?_⟩
      · as_aux_lemma =>
        intro y_ hS_ hO_ hD
        clear hS_ hO_ hD
        refine s_gen (V := .agg #[.int .u64 1, .int .u64 0, .int .u64 0, .int .u64 0]) [.int .u64 1] (by kernel_rfl) (by kernel_rfl) (by kernel_rfl) ?_
        intro r_ hr_
        have o0_ : r_ (.const (.int .u64 1)) = .int .u64 1 := op_at hr_ 0 (by kernel_rfl) (by kernel_rfl)
        clear hr_
        go_simp; first | done | with_reducible rfl | omega
      simp only [Act.put, planVG, List.setIfInBounds_toArray, List.set_cons_zero, List.set_cons_succ, List.getElem?_cons_zero, List.getElem?_cons_succ]
      refine ⟨?_, ?_⟩
      · as_aux_lemma =>
        intro y_ hS_ hO_ hD
        clear hS_ hO_ hD
        refine s_gen (V := .agg #[.int .i64 1, .int .u64 1, .int .u64 0, .int .u64 0, .int .u64 0]) [.int .i64 1, .agg #[.int .u64 1, .int .u64 0, .int .u64 0, .int .u64 0]] (by kernel_rfl) (by kernel_rfl) (by kernel_rfl) ?_
        intro r_ hr_
        have o0_ : r_ (.const (.int .i64 1)) = .int .i64 1 := op_at hr_ 0 (by kernel_rfl) (by kernel_rfl)
        have o1_ : r_ (.tmp 53) = .agg #[.int .u64 1, .int .u64 0, .int .u64 0, .int .u64 0] := op_at hr_ 1 (by kernel_rfl) (by kernel_rfl)
        clear hr_
        go_simp; first | done | with_reducible rfl | omega
      simp only [Act.put, planVG, List.setIfInBounds_toArray, List.set_cons_zero, List.set_cons_succ, List.getElem?_cons_zero, List.getElem?_cons_succ]
      refine ⟨?_, ?_⟩
      · as_aux_lemma =>
        intro y_ hS_ hO_ hD
        clear hS_ hO_ hD
        refine s_gen (V := .agg #[.int .u64 2, .int .u64 0, .int .u64 0, .int .u64 0]) [.int .u64 2] (by kernel_rfl) (by kernel_rfl) (by kernel_rfl) ?_
        intro r_ hr_
        have o0_ : r_ (.const (.int .u64 2)) = .int .u64 2 := op_at hr_ 0 (by kernel_rfl) (by kernel_rfl)
        clear hr_
        go_simp; first | done | with_reducible rfl | omega
      simp only [Act.put, planVG, List.setIfInBounds_toArray, List.set_cons_zero, List.set_cons_succ, List.getElem?_cons_zero, List.getElem?_cons_succ]
      refine ⟨?_, ?_⟩
      · as_aux_lemma =>
        intro y_ hS_ hO_ hD
        clear hS_ hO_ hD
        refine s_gen (V := .agg #[.int .i64 0, .int .u64 2, .int .u64 0, .int .u64 0, .int .u64 0]) [.agg #[.int .u64 2, .int .u64 0, .int .u64 0, .int .u64 0]] (by kernel_rfl) (by kernel_rfl) (by kernel_rfl) ?_
        intro r_ hr_
        have o0_ : r_ (.tmp 55) = .agg #[.int .u64 2, .int .u64 0, .int .u64 0, .int .u64 0] := op_at hr_ 0 (by kernel_rfl) (by kernel_rfl)
        clear hr_
        go_simp; first | done | with_reducible rfl | omega
      simp only [Act.put, planVG, List.setIfInBounds_toArray, List.set_cons_zero, List.set_cons_succ, List.getElem?_cons_zero, List.getElem?_cons_succ]
      refine ⟨?_, ?_⟩
      · as_aux_lemma =>
        intro y_ hS_ hO_ hD
        try clear hS
        clear hS_ hO_ hD
        refine s_gcall (V := .int .i64 0) [.func (.func 51) #[] #[], .agg #[.int .i64 1, .int .u64 1, .int .u64 0, .int .u64 0, .int .u64 0], .agg #[.int .i64 0, .int .u64 2, .int .u64 0, .int .u64 0, .int .u64 0]] ?_ ?_ (by kernel_rfl) (by kernel_rfl) (by kernel_rfl) ?_ ?_
        rotate_left 2
        · intro r_ hr_
          have o0_ : r_ (.func 51) = .func (.func 51) #[] #[] := op_at hr_ 0 (by kernel_rfl) (by kernel_rfl)
          have o1_ : r_ (.tmp 54) = .agg #[.int .i64 1, .int .u64 1, .int .u64 0, .int .u64 0, .int .u64 0] := op_at hr_ 1 (by kernel_rfl) (by kernel_rfl)
          have o2_ : r_ (.tmp 56) = .agg #[.int .i64 0, .int .u64 2, .int .u64 0, .int .u64 0, .int .u64 0] := op_at hr_ 2 (by kernel_rfl) (by kernel_rfl)
          clear hr_
          go_simp; first | done | with_reducible rfl | (constructor <;> with_reducible rfl)
        · refine lit_770dd32f _
      simp only [Act.put, planVG, List.setIfInBounds_toArray, List.set_cons_zero, List.set_cons_succ, List.getElem?_cons_zero, List.getElem?_cons_succ]
      refine ⟨?_, ?_⟩
      · as_aux_lemma =>
        intro y_ hS_ hO_ hD
        clear hS_ hO_ hD
        refine s_gen (V := .bool true) [.int .i64 0, .int .i64 0] (by kernel_rfl) (by kernel_rfl) (by kernel_rfl) ?_
        intro r_ hr_
        have o0_ : r_ (.tmp 57) = .int .i64 0 := op_at hr_ 0 (by kernel_rfl) (by kernel_rfl)
        have o1_ : r_ (.const (.int .i64 0)) = .int .i64 0 := op_at hr_ 1 (by kernel_rfl) (by kernel_rfl)
        clear hr_
        go_simp; first | done | with_reducible rfl | omega
      simp only [Act.put, planVG, List.setIfInBounds_toArray, List.set_cons_zero, List.set_cons_succ, List.getElem?_cons_zero, List.getElem?_cons_succ]
      refine ⟨?_, ?_⟩
      · as_aux_lemma =>
        intro y_ hS_ hO_ hD
        clear hS_ hO_ hD
        refine s_gen (V := .bool true) [.bool true, .bool true, .bool false] (by kernel_rfl) (by kernel_rfl) (by kernel_rfl) ?_
        intro r_ hr_
        have o0_ : r_ (.tmp 52) = .bool true := op_at hr_ 0 (by kernel_rfl) (by kernel_rfl)
        have o1_ : r_ (.tmp 58) = .bool true := op_at hr_ 1 (by kernel_rfl) (by kernel_rfl)
        have o2_ : r_ (.const (.bool false)) = .bool false := op_at hr_ 2 (by kernel_rfl) (by kernel_rfl)
        clear hr_
        go_simp; first | done | with_reducible rfl | omega
      simp only [Act.put, planVG, List.setIfInBounds_toArray, List.set_cons_zero, List.set_cons_succ, List.getElem?_cons_zero, List.getElem?_cons_succ]
      refine ⟨?_, ?_⟩
      · as_aux_lemma =>
        intro y_ hS_ hO_ hD
        clear hS_ hO_ hD
        refine s_gen (V := .bool true) [.bool true] (by kernel_rfl) (by kernel_rfl) (by kernel_rfl) ?_
        intro r_ hr_
        have o0_ : r_ (.tmp 59) = .bool true := op_at hr_ 0 (by kernel_rfl) (by kernel_rfl)
        clear hr_
        go_simp; first | done | with_reducible rfl | omega
      simp only [Act.put, planVG, List.setIfInBounds_toArray, List.set_cons_zero, List.set_cons_succ, List.getElem?_cons_zero, List.getElem?_cons_succ]
      refine ⟨?_, ?_⟩
      · as_aux_lemma =>
        intro y_ hS_ hO_ hD
        clear hS_ hO_ hD
        refine s_gen (V := .agg #[.int .u64 1, .int .u64 0, .int .u64 0, .int .u64 0]) [.int .u64 1] (by kernel_rfl) (by kernel_rfl) (by kernel_rfl) ?_
        intro r_ hr_
        have o0_ : r_ (.const (.int .u64 1)) = .int .u64 1 := op_at hr_ 0 (by kernel_rfl) (by kernel_rfl)
        clear hr_
        go_simp; first | done | with_reducible rfl | omega
      simp only [Act.put, planVG, List.setIfInBounds_toArray, List.set_cons_zero, List.set_cons_succ, List.getElem?_cons_zero, List.getElem?_cons_succ]
      refine ⟨?_, ?_⟩
      · as_aux_lemma =>
        intro y_ hS_ hO_ hD
        clear hS_ hO_ hD
        refine s_gen (V := .agg #[.int .i64 300, .int .u64 1, .int .u64 0, .int .u64 0, .int .u64 0]) [.int .i64 300, .agg #[.int .u64 1, .int .u64 0, .int .u64 0, .int .u64 0]] (by kernel_rfl) (by kernel_rfl) (by kernel_rfl) ?_
        intro r_ hr_
        have o0_ : r_ (.const (.int .i64 300)) = .int .i64 300 := op_at hr_ 0 (by kernel_rfl) (by kernel_rfl)
        have o1_ : r_ (.tmp 61) = .agg #[.int .u64 1, .int .u64 0, .int .u64 0, .int .u64 0] := op_at hr_ 1 (by kernel_rfl) (by kernel_rfl)
        clear hr_
        go_simp; first | done | with_reducible rfl | omega
      simp only [Act.put, planVG, List.setIfInBounds_toArray, List.set_cons_zero, List.set_cons_succ, List.getElem?_cons_zero, List.getElem?_cons_succ]
      refine ⟨?_, ?_⟩
      · as_aux_lemma =>
        intro y_ hS_ hO_ hD
        clear hS_ hO_ hD
        refine s_gen (V := .agg #[.int .u64 18446744073709551615, .int .u64 18446744073709551615, .int .u64 18446744073709551615, .int .u64 18446744073709551615]) [.int .u64 18446744073709551615, .int .u64 18446744073709551615, .int .u64 18446744073709551615, .int .u64 18446744073709551615] (by kernel_rfl) (by kernel_rfl) (by kernel_rfl) ?_
        intro r_ hr_
        have o0_ : r_ (.const (.int .u64 18446744073709551615)) = .int .u64 18446744073709551615 := op_at hr_ 0 (by kernel_rfl) (by kernel_rfl)
        have o1_ : r_ (.const (.int .u64 18446744073709551615)) = .int .u64 18446744073709551615 := op_at hr_ 1 (by kernel_rfl) (by kernel_rfl)
        have o2_ : r_ (.const (.int .u64 18446744073709551615)) = .int .u64 18446744073709551615 := op_at hr_ 2 (by kernel_rfl) (by kernel_rfl)
        have o3_ : r_ (.const (.int .u64 18446744073709551615)) = .int .u64 18446744073709551615 := op_at hr_ 3 (by kernel_rfl) (by kernel_rfl)
        clear hr_
        go_simp; first | done | with_reducible rfl | omega
      simp only [Act.put, planVG, List.setIfInBounds_toArray, List.set_cons_zero, List.set_cons_succ, List.getElem?_cons_zero, List.getElem?_cons_succ]
      refine ⟨?_, ?_⟩
      · as_aux_lemma =>
        intro y_ hS_ hO_ hD
        clear hS_ hO_ hD
        refine s_gen (V := .agg #[.int .i64 0, .int .u64 18446744073709551615, .int .u64 18446744073709551615, .int .u64 18446744073709551615, .int .u64 18446744073709551615]) [.agg #[.int .u64 18446744073709551615, .int .u64 18446744073709551615, .int .u64 18446744073709551615, .int .u64 18446744073709551615]] (by kernel_rfl) (by kernel_rfl) (by kernel_rfl) ?_
        intro r_ hr_
        have o0_ : r_ (.tmp 63) = .agg #[.int .u64 18446744073709551615, .int .u64 18446744073709551615, .int .u64 18446744073709551615, .int .u64 18446744073709551615] := op_at hr_ 0 (by kernel_rfl) (by kernel_rfl)
        clear hr_
        go_simp; first | done | with_reducible rfl | omega
      simp only [Act.put, planVG, List.setIfInBounds_toArray, List.set_cons_zero, List.set_cons_succ, List.getElem?_cons_zero, List.getElem?_cons_succ]
      refine ⟨?_, ?_⟩
      · as_aux_lemma =>
        intro y_ hS_ hO_ hD
        try clear hS
        clear hS_ hO_ hD
        refine s_gcall (V := .int .i64 1) [.func (.func 51) #[] #[], .agg #[.int .i64 300, .int .u64 1, .int .u64 0, .int .u64 0, .int .u64 0], .agg #[.int .i64 0, .int .u64 18446744073709551615, .int .u64 18446744073709551615, .int .u64 18446744073709551615, .int .u64 18446744073709551615]] ?_ ?_ (by kernel_rfl) (by kernel_rfl) (by kernel_rfl) ?_ ?_
        rotate_left 2
        · intro r_ hr_
          have o0_ : r_ (.func 51) = .func (.func 51) #[] #[] := op_at hr_ 0 (by kernel_rfl) (by kernel_rfl)
          have o1_ : r_ (.tmp 62) = .agg #[.int .i64 300, .int .u64 1, .int .u64 0, .int .u64 0, .int .u64 0] := op_at hr_ 1 (by kernel_rfl) (by kernel_rfl)
          have o2_ : r_ (.tmp 64) = .agg #[.int .i64 0, .int .u64 18446744073709551615, .int .u64 18446744073709551615, .int .u64 18446744073709551615, .int .u64 18446744073709551615] := op_at hr_ 2 (by kernel_rfl) (by kernel_rfl)
          clear hr_
          go_simp; first | done | with_reducible rfl | (constructor <;> with_reducible rfl)
        · refine lit_5887ff5d _
      simp only [Act.put, planVG, List.setIfInBounds_toArray, List.set_cons_zero, List.set_cons_succ, List.getElem?_cons_zero, List.getElem?_cons_succ]
      refine ⟨?_, ?_⟩
      · as_aux_lemma =>
        intro y_ hS_ hO_ hD
        clear hS_ hO_ hD
        refine s_gen (V := .bool true) [.int .i64 1, .int .i64 1] (by kernel_rfl) (by kernel_rfl) (by kernel_rfl) ?_
        intro r_ hr_
        have o0_ : r_ (.tmp 65) = .int .i64 1 := op_at hr_ 0 (by kernel_rfl) (by kernel_rfl)
        have o1_ : r_ (.const (.int .i64 1)) = .int .i64 1 := op_at hr_ 1 (by kernel_rfl) (by kernel_rfl)
        clear hr_
        go_simp; first | done | with_reducible rfl | omega
      simp only [Act.put, planVG, List.setIfInBounds_toArray, List.set_cons_zero, List.set_cons_succ, List.getElem?_cons_zero, List.getElem?_cons_succ]
      refine ⟨?_, ?_⟩
      · as_aux_lemma =>
        intro y_ hS_ hO_ hD
        clear hS_ hO_ hD
        refine s_gen (V := .bool true) [.bool true, .bool true, .bool false] (by kernel_rfl) (by kernel_rfl) (by kernel_rfl) ?_
        intro r_ hr_
        have o0_ : r_ (.tmp 60) = .bool true := op_at hr_ 0 (by kernel_rfl) (by kernel_rfl)
        have o1_ : r_ (.tmp 66) = .bool true := op_at hr_ 1 (by kernel_rfl) (by kernel_rfl)
        have o2_ : r_ (.const (.bool false)) = .bool false := op_at hr_ 2 (by kernel_rfl) (by kernel_rfl)
        clear hr_
        go_simp; first | done | with_reducible rfl | omega
      simp only [Act.put, planVG, List.setIfInBounds_toArray, List.set_cons_zero, List.set_cons_succ, List.getElem?_cons_zero, List.getElem?_cons_succ]
      refine ⟨?_, ?_⟩
      · as_aux_lemma =>
        intro y_ hS_ hO_ hD
        clear hS_ hO_ hD
        refine s_gen (V := .bool true) [.bool true] (by kernel_rfl) (by kernel_rfl) (by kernel_rfl) ?_
        intro r_ hr_
        have o0_ : r_ (.tmp 67) = .bool true := op_at hr_ 0 (by kernel_rfl) (by kernel_rfl)
        clear hr_
        go_simp; first | done | with_reducible rfl | omega
      simp only [Act.put, planVG, List.setIfInBounds_toArray, List.set_cons_zero, List.set_cons_succ, List.getElem?_cons_zero, List.getElem?_cons_succ]
      refine ⟨?_, ?_⟩
      · as_aux_lemma =>
        intro y_ hS_ hO_ hD
        clear hS_ hO_ hD
        refine s_gen (V := .agg #[.int .u64 7, .int .u64 6]) [.int .u64 7, .int .u64 6] (by kernel_rfl) (by kernel_rfl) (by kernel_rfl) ?_
        intro r_ hr_
        have o0_ : r_ (.const (.int .u64 7)) = .int .u64 7 := op_at hr_ 0 (by kernel_rfl) (by kernel_rfl)
        have o1_ : r_ (.const (.int .u64 6)) = .int .u64 6 := op_at hr_ 1 (by kernel_rfl) (by kernel_rfl)
        clear hr_
        go_simp; first | done | with_reducible rfl | omega
      simp only [Act.put, planVG, List.setIfInBounds_toArray, List.set_cons_zero, List.set_cons_succ, List.getElem?_cons_zero, List.getElem?_cons_succ]
      refine ⟨?_, ?_⟩
      · as_aux_lemma =>
        intro y_ hS_ hO_ hD
        clear hS_ hO_ hD
        refine s_gen (V := .agg #[.bool false, .int .u8 0, .int .i64 5, .int .u64 7, .int .u64 6]) [.int .i64 5, .agg #[.int .u64 7, .int .u64 6]] (by kernel_rfl) (by kernel_rfl) (by kernel_rfl) ?_
        intro r_ hr_
        have o0_ : r_ (.const (.int .i64 5)) = .int .i64 5 := op_at hr_ 0 (by kernel_rfl) (by kernel_rfl)
        have o1_ : r_ (.tmp 69) = .agg #[.int .u64 7, .int .u64 6] := op_at hr_ 1 (by kernel_rfl) (by kernel_rfl)
        clear hr_
        go_simp; first | done | with_reducible rfl | omega
      simp only [Act.put, planVG, List.setIfInBounds_toArray, List.set_cons_zero, List.set_cons_succ, List.getElem?_cons_zero, List.getElem?_cons_succ]
      refine ⟨?_, ?_⟩
      · as_aux_lemma =>
        intro y_ hS_ hO_ hD
        try clear hS
        clear hS_ hO_ hD
        refine s_gcall (V := .agg #[.int .i64 5, .int .u64 0, .int .u64 0, .int .u64 6, .int .u64 7]) [.func (.func 55) #[] #[], .agg #[.bool false, .int .u8 0, .int .i64 5, .int .u64 7, .int .u64 6]] ?_ ?_ (by kernel_rfl) (by kernel_rfl) (by kernel_rfl) ?_ ?_
        rotate_left 2
        · intro r_ hr_
          have o0_ : r_ (.func 55) = .func (.func 55) #[] #[] := op_at hr_ 0 (by kernel_rfl) (by kernel_rfl)
          have o1_ : r_ (.tmp 70) = .agg #[.bool false, .int .u8 0, .int .i64 5, .int .u64 7, .int .u64 6] := op_at hr_ 1 (by kernel_rfl) (by kernel_rfl)
          clear hr_
          go_simp; first | done | with_reducible rfl | (constructor <;> with_reducible rfl)
        · refine lit_837d52bf _
      simp only [Act.put, planVG, List.setIfInBounds_toArray, List.set_cons_zero, List.set_cons_succ, List.getElem?_cons_zero, List.getElem?_cons_succ]
      refine ⟨?_, ?_⟩
      · as_aux_lemma =>
        intro y_ hS_ hO_ hD
        clear hS_ hO_ hD
        refine s_gen (V := .agg #[.int .u64 0, .int .u64 0, .int .u64 6, .int .u64 7]) [.int .u64 0, .int .u64 0, .int .u64 6, .int .u64 7] (by kernel_rfl) (by kernel_rfl) (by kernel_rfl) ?_
        intro r_ hr_
        have o0_ : r_ (.const (.int .u64 0)) = .int .u64 0 := op_at hr_ 0 (by kernel_rfl) (by kernel_rfl)
        have o1_ : r_ (.const (.int .u64 0)) = .int .u64 0 := op_at hr_ 1 (by kernel_rfl) (by kernel_rfl)
        have o2_ : r_ (.const (.int .u64 6)) = .int .u64 6 := op_at hr_ 2 (by kernel_rfl) (by kernel_rfl)
        have o3_ : r_ (.const (.int .u64 7)) = .int .u64 7 := op_at hr_ 3 (by kernel_rfl) (by kernel_rfl)
        clear hr_
        go_simp; first | done | with_reducible rfl | omega
      simp only [Act.put, planVG, List.setIfInBounds_toArray, List.set_cons_zero, List.set_cons_succ, List.getElem?_cons_zero, List.getElem?_cons_succ]
      refine ⟨?_, ?_⟩
      · as_aux_lemma =>
        intro y_ hS_ hO_ hD
        clear hS_ hO_ hD
        refine s_gen (V := .agg #[.int .i64 5, .int .u64 0, .int .u64 0, .int .u64 6, .int .u64 7]) [.int .i64 5, .agg #[.int .u64 0, .int .u64 0, .int .u64 6, .int .u64 7]] (by kernel_rfl) (by kernel_rfl) (by kernel_rfl) ?_
        intro r_ hr_
        have o0_ : r_ (.const (.int .i64 5)) = .int .i64 5 := op_at hr_ 0 (by kernel_rfl) (by kernel_rfl)
        have o1_ : r_ (.tmp 72) = .agg #[.int .u64 0, .int .u64 0, .int .u64 6, .int .u64 7] := op_at hr_ 1 (by kernel_rfl) (by kernel_rfl)
        clear hr_
        go_simp; first | done | with_reducible rfl | omega
      simp only [Act.put, planVG, List.setIfInBounds_toArray, List.set_cons_zero, List.set_cons_succ, List.getElem?_cons_zero, List.getElem?_cons_succ]
      refine ⟨?_, ?_⟩
      · as_aux_lemma =>
        intro y_ hS_ hO_ hD
        clear hS_ hO_ hD
        refine s_gen (V := .bool true) [.agg #[.int .i64 5, .int .u64 0, .int .u64 0, .int .u64 6, .int .u64 7], .agg #[.int .i64 5, .int .u64 0, .int .u64 0, .int .u64 6, .int .u64 7]] (by kernel_rfl) (by kernel_rfl) (by kernel_rfl) ?_
        intro r_ hr_
        have o0_ : r_ (.tmp 71) = .agg #[.int .i64 5, .int .u64 0, .int .u64 0, .int .u64 6, .int .u64 7] := op_at hr_ 0 (by kernel_rfl) (by kernel_rfl)
        have o1_ : r_ (.tmp 73) = .agg #[.int .i64 5, .int .u64 0, .int .u64 0, .int .u64 6, .int .u64 7] := op_at hr_ 1 (by kernel_rfl) (by kernel_rfl)
        clear hr_
        go_simp; first | done | with_reducible rfl | omega
      simp only [Act.put, planVG, List.setIfInBounds_toArray, List.set_cons_zero, List.set_cons_succ, List.getElem?_cons_zero, List.getElem?_cons_succ]
      refine ⟨?_, ?_⟩
      · as_aux_lemma =>
        intro y_ hS_ hO_ hD
        clear hS_ hO_ hD
        refine s_gen (V := .bool true) [.bool true, .bool true, .bool false] (by kernel_rfl) (by kernel_rfl) (by kernel_rfl) ?_
        intro r_ hr_
        have o0_ : r_ (.tmp 68) = .bool true := op_at hr_ 0 (by kernel_rfl) (by kernel_rfl)
        have o1_ : r_ (.tmp 74) = .bool true := op_at hr_ 1 (by kernel_rfl) (by kernel_rfl)
        have o2_ : r_ (.const (.bool false)) = .bool false := op_at hr_ 2 (by kernel_rfl) (by kernel_rfl)
        clear hr_
        go_simp; first | done | with_reducible rfl | omega
      simp only [Act.put, planVG, List.setIfInBounds_toArray, List.set_cons_zero, List.set_cons_succ, List.getElem?_cons_zero, List.getElem?_cons_succ]
      refine ⟨?_, ?_⟩
      · as_aux_lemma =>
        intro y_ hS_ hO_ hD
        clear hS_ hO_ hD
        refine s_gen (V := .bool true) [.bool true] (by kernel_rfl) (by kernel_rfl) (by kernel_rfl) ?_
        intro r_ hr_
        have o0_ : r_ (.tmp 75) = .bool true := op_at hr_ 0 (by kernel_rfl) (by kernel_rfl)
        clear hr_
        go_simp; first | done | with_reducible rfl | omega
      simp only [Act.put, planVG, List.setIfInBounds_toArray, List.set_cons_zero, List.set_cons_succ, List.getElem?_cons_zero, List.getElem?_cons_succ]
      refine ⟨?_, ?_⟩
      · as_aux_lemma =>
        intro y_ hS_ hO_ hD
        try clear hS
        clear hS_ hO_ hD
        refine s_gcall (V := .bool true) [.func (.func 50) #[] #[]] ?_ ?_ (by kernel_rfl) (by kernel_rfl) (by kernel_rfl) ?_ ?_
        rotate_left 2
        · intro r_ hr_
          have o0_ : r_ (.func 50) = .func (.func 50) #[] #[] := op_at hr_ 0 (by kernel_rfl) (by kernel_rfl)
          clear hr_
          go_simp; first | done | with_reducible rfl | (constructor <;> with_reducible rfl)
        · refine goes17_any _
      simp only [Act.put, planVG, List.setIfInBounds_toArray, List.set_cons_zero, List.set_cons_succ, List.getElem?_cons_zero, List.getElem?_cons_succ]
      refine ⟨?_, ?_⟩
      · as_aux_lemma =>
        intro y_ hS_ hO_ hD
        clear hS_ hO_ hD
        refine s_gen (V := .bool true) [.bool true, .bool true, .bool false] (by kernel_rfl) (by kernel_rfl) (by kernel_rfl) ?_
        intro r_ hr_
        have o0_ : r_ (.tmp 76) = .bool true := op_at hr_ 0 (by kernel_rfl) (by kernel_rfl)
        have o1_ : r_ (.tmp 77) = .bool true := op_at hr_ 1 (by kernel_rfl) (by kernel_rfl)
        have o2_ : r_ (.const (.bool false)) = .bool false := op_at hr_ 2 (by kernel_rfl) (by kernel_rfl)
        clear hr_
        go_simp; first | done | with_reducible rfl | omega
      simp only [Act.put, planVG, List.setIfInBounds_toArray, List.set_cons_zero, List.set_cons_succ, List.getElem?_cons_zero, List.getElem?_cons_succ]
      refine ⟨?_, ?_⟩
      · as_aux_lemma =>
        intro y_ hS_ hO_ hD
        clear hS_ hO_ hD
        refine s_gen (V := .bool true) [.bool true] (by kernel_rfl) (by kernel_rfl) (by kernel_rfl) ?_
        intro r_ hr_
        have o0_ : r_ (.tmp 78) = .bool true := op_at hr_ 0 (by kernel_rfl) (by kernel_rfl)
        clear hr_
        go_simp; first | done | with_reducible rfl | omega
      simp only [Act.put, planVG, List.setIfInBounds_toArray, List.set_cons_zero, List.set_cons_succ, List.getElem?_cons_zero, List.getElem?_cons_succ]
      as_aux_lemma =>
        intro w5 hS hF hD_
        change wpList _ _ _ _ _ _
        replace hS := sg_no (by decide) hS
        obtain ⟨hk, hZ5, Bv3_6, Bv5_6, X3⟩ := hS
        clear hF hD_
        clear ρ
        have hz_w5 := hk.size
        have Bv3_6l := Bv3_6.lt
        have Bv3_6f := Bv3_6.free
        have Bv3_6l1 : v3_6 < w5.heap.size + 1 := by omega
        have Bv3_6l2 : v3_6 < w5.heap.size + 1 + 1 := by omega
        have Bv3_6l3 : v3_6 < w5.heap.size + 1 + 1 + 1 := by omega
        have Bv3_60 := Bv3_6.cell 0 _ rfl
        have Bv3_61 := Bv3_6.cell 1 _ rfl
        have Bv3_62 := Bv3_6.cell 2 _ rfl
        have Bv3_63 := Bv3_6.cell 3 _ rfl
        have Bv3_64 := Bv3_6.cell 4 _ rfl
        have Bv5_6l := Bv5_6.lt
        have Bv5_6f := Bv5_6.free
        have Bv5_6l1 : v5_6 < w5.heap.size + 1 := by omega
        have Bv5_6l2 : v5_6 < w5.heap.size + 1 + 1 := by omega
        have Bv5_6l3 : v5_6 < w5.heap.size + 1 + 1 + 1 := by omega
        have Bv5_60 := Bv5_6.cell 0 _ rfl
        have Bv5_61 := Bv5_6.cell 1 _ rfl
        have Bv5_62 := Bv5_6.cell 2 _ rfl
        have Bv5_63 := Bv5_6.cell 3 _ rfl
        have Bv5_64 := Bv5_6.cell 4 _ rfl
        have X3l := X3.lt
        have X3f := X3.free
        have X3l1 : w4.heap.size < w5.heap.size + 1 := by omega
        have X3l2 : w4.heap.size < w5.heap.size + 1 + 1 := by omega
        have X3l3 : w4.heap.size < w5.heap.size + 1 + 1 + 1 := by omega
        have X30 := X3.cell 0 _ rfl
        have X31 := X3.cell 1 _ rfl
        have X32 := X3.cell 2 _ rfl
        have X33 := X3.cell 3 _ rfl
        have X34 := X3.cell 4 _ rfl
        go_wp2
        go_ret
        exact ⟨rfl, (by refine Kept.below ?_; repeat (first | with_reducible exact hk | with_reducible exact Kept.refl _ | with_reducible refine Kept.alloc ?_ _ | with_reducible refine Kept.drew ?_ | with_reducible refine Kept.setCell ?_ (by simp only [World.size_alloc, World.size_setCell, World.size_drew]; omega) _))⟩

end Go.Proofs.Ythpmbfdbknikcaa
