/- The walk of ShiftJams. -/
import Derived.Test.YtglagdmfplgfaaaLaw03
import Derived.Test.YtglagdmfplgfaaaRegionG
import Derived.Test.YtglagdmfplgfaaaNum3
import Derived.Test.YtglagdmfplgfaaaWide2
set_option linter.unusedVariables false
set_option linter.unusedSimpArgs false
namespace Go.Proofs.Ytglagdmfplgfaaa
open Go.RowKit

theorem zero256 : wideV 0 = .agg #[.int .u64 0, .int .u64 0, .int .u64 0, .int .u64 0] := by
  have h : ∀ i, limb i 0 = 0 := fun i => by unfold limb; simp
  rw [wideV, h, h, h, h]
theorem one256 : wideV 1 = .agg #[.int .u64 1, .int .u64 0, .int .u64 0, .int .u64 0] := by
  have h : ∀ i, 0 < i → limb i 1 = 0 := fun i hi => by
    unfold limb
    rw [Nat.div_eq_of_lt (Nat.one_lt_two_pow (by omega))]; rfl
  rw [wideV, h 1 (by omega), h 2 (by omega), h 3 (by omega)]
  rw [show limb 0 1 = 1 by unfold limb; rfl]
theorem ne_zero256 {A : Nat} (hA : W256 A) (h : A ≠ 0) : limb 0 A = 0 → limb 1 A = 0 → limb 2 A = 0 → ¬ limb 3 A = 0 := by
  have e : ∀ i, limb i 0 = 0 := fun i => by unfold limb; simp
  have := limbs_ne256 hA (show W256 0 from ⟨by decide⟩) h
  rwa [e, e, e, e] at this
@[go_sem] theorem eqW_same3 (a b c d : Int) : eqW a b c d a b c d = true := eqW_true.2 ⟨rfl, rfl, rfl, rfl⟩
theorem and_odd (q : Nat) : bits .and .u64 (limb 0 (oddN q)) 1 = 1 := by
  have h := limb_u64 0 (oddN q)
  obtain ⟨x, hx⟩ : ∃ x : Nat, limb 0 (oddN q) = x := ⟨(limb 0 (oddN q)).toNat, by have := h.lo; omega⟩
  have h2 : x % 2 = 1 := by
    have e : limb 0 (oddN q) = ((oddN q % 2 ^ 64 : Nat) : Int) := by unfold limb; rw [Nat.mul_zero, Nat.pow_zero, Nat.div_one]
    rw [e] at hx
    unfold oddN at hx; omega
  have hx64 : x < 2 ^ 64 := by have := h.hi; omega
  rw [hx]
  have e1 : (BitVec.ofNat 64 x &&& BitVec.ofNat 64 1).toNat = x % 2 := by
    rw [BitVec.toNat_and, BitVec.toNat_ofNat, BitVec.toNat_ofNat, Nat.mod_eq_of_lt hx64, Nat.mod_eq_of_lt (by omega), Nat.and_one_is_mod]
  show IntKind.u64.wrap ((BitVec.ofInt 64 ((x : Nat) : Int) &&& BitVec.ofInt 64 ((1 : Nat) : Int)).toNat : Nat) = _
  rw [BitVec.ofInt_natCast, BitVec.ofInt_natCast, e1, h2]; rfl
theorem lit_ad474a1d (w : World) : Calls Try.prog 26 #[.agg #[.int .u64 0, .int .u64 0, .int .u64 0, .int .u64 0], .agg #[.int .u64 0, .int .u64 0, .int .u64 0, .int .u64 0]] w fun e w' => e = .returned (.tuple #[.agg #[.int .u64 0, .int .u64 0, .int .u64 0, .int .u64 0], .bool false]) ∧ Below w.heap.size w w' :=
  calls_to (V := .tuple #[.agg #[.int .u64 0, .int .u64 0, .int .u64 0, .int .u64 0], .bool false]) (SubW_at (IsWide.val u64_zero u64_zero u64_zero u64_zero) (IsWide.val u64_zero u64_zero u64_zero u64_zero) _) (by kernel_rfl)
set_option maxRecDepth 100000 in
set_option maxHeartbeats 8000000 in
theorem ShiftJams_same0 {n : Int} (n0 : -9223372036854775808 ≤ n) (n1 : n ≤ 9223372036854775807) (hL : lostB (val4 0 0 0 0) n = false) (eX : wideV (rightN (val4 0 0 0 0) n) = .agg #[.int .u64 0, .int .u64 0, .int .u64 0, .int .u64 0]) (eY : wideV (jamN (val4 0 0 0 0) n) = .agg #[.int .u64 0, .int .u64 0, .int .u64 0, .int .u64 0]) (w : World) :
    Calls Try.prog 5 #[.agg #[.int .u64 0, .int .u64 0, .int .u64 0, .int .u64 0], .int .i64 n] w fun e w' => e = .returned (.bool true) ∧ Below w.heap.size w w' := by
  have hk := Kept.refl w
  have HL := Lib.hid hL; have HX := Lib.hid eX; have HY := Lib.hid eY
  clear hL eX eY
  go_enter Try.func5, Try.ntmps5
  go_wp2
  refine wp_region_g 10 (fun W' => Kept w.heap.size w W' ∧ w.heap.size + 1 ≤ W'.heap.size ∧ Box W' (w.heap.size) #[.int .u64 0, .int .u64 0, .int .u64 0, .int .u64 0]) (fun W' => Kept w.heap.size w W' ∧ w.heap.size + 1 ≤ W'.heap.size ∧ Box W' (w.heap.size) #[.int .u64 0, .int .u64 0, .int .u64 0, .int .u64 0]) 1000 (w.heap.size + 1) [.known (.agg #[.int .u64 0, .int .u64 0, .int .u64 0, .int .u64 0]), .known (.int .i64 (n)), .known (.agg #[.int .u64 0, .int .u64 0, .int .u64 0, .int .u64 0]), .known (.agg #[.int .u64 0, .int .u64 0, .int .u64 0, .int .u64 0]), .known (.int .i64 (n)), .known (.agg #[.int .u64 0, .int .u64 0, .int .u64 0, .int .u64 0]), .var #[.int .u64 0, .int .u64 0, .int .u64 0, .int .u64 0] 8 [.int .u64 0, .int .u64 0, .int .u64 0, .int .u64 0], .var #[.int .u64 0, .int .u64 0, .int .u64 0, .int .u64 0] 9 [.int .u64 0, .int .u64 0, .int .u64 0, .int .u64 0], .put 6, .put 7] (by kernel_rfl) (by kernel_rfl) (fun W W' h hb => ⟨h.1.step hb, Nat.le_trans (h.2.1) hb.size, Box.call hb (h.2.2)⟩) (fun W W' h hb => ⟨h.1.step hb, Nat.le_trans (h.2.1) hb.size, Box.call hb (h.2.2)⟩) (no_out (of_decide_eq_true (by kernel_rfl))) (.inr (fun W' b i v hb h => ⟨h.1.setCell (p := ⟨b, i, none⟩) (by simp only []; omega) v, (by rw [World.size_setCell]; exact h.2.1), (h.2.2).other (by omega)⟩)) (.inr (fun W' b i v hb h => ⟨h.1.setCell (p := ⟨b, i, none⟩) (by simp only []; omega) v, (by rw [World.size_setCell]; exact h.2.1), (h.2.2).other (by omega)⟩)) (fun _ h => h.2.1) (fun _ h => h.2.1) (⟨(by repeat (first | with_reducible exact hk | with_reducible exact Kept.refl _ | with_reducible refine Kept.alloc ?_ _ | with_reducible refine Kept.drew ?_ | with_reducible refine Kept.setCell ?_ (by simp only [World.size_alloc, World.size_setCell, World.size_drew]; omega) _)), (by (try simp only [World.size_alloc, World.size_setCell, World.size_drew]); omega), (by repeat (first | with_reducible assumption | with_reducible apply Box.set10 | with_reducible apply Box.set20 | with_reducible apply Box.set21 | with_reducible apply Box.set40 | with_reducible apply Box.set41 | with_reducible apply Box.set42 | with_reducible apply Box.set43 | with_reducible apply Box.set50 | with_reducible apply Box.set51 | with_reducible apply Box.set52 | with_reducible apply Box.set53 | with_reducible apply Box.set54 | with_reducible apply Box.drew | (with_reducible apply Box.newAt; (try simp only [World.size_alloc, World.size_setCell, World.size_drew]); done) | with_reducible apply Box.alloc | (with_reducible apply Box.other; case hne => ((try simp only [World.size_alloc, World.size_setCell, World.size_drew]); omega))))⟩) ?_
  clear hk
  intro ρ
  simp only [List.take_succ_cons, List.take_zero, List.drop_succ_cons, List.drop_zero]
  refine ⟨?_, ?_⟩
  · as_aux_lemma =>
    intro y_ hS_ hO_ hD
    have Q := ((hS_ (by rfl)).2.2).cell
    have q0 := Q 0 _ rfl
    have q1 := Q 1 _ rfl
    have q2 := Q 2 _ rfl
    have q3 := Q 3 _ rfl
    clear Q hS_ hO_ hD
    refine s_gen (V := .agg #[.int .u64 0, .int .u64 0, .int .u64 0, .int .u64 0]) [.pointer (some ⟨w.heap.size, 0, none⟩)] (by kernel_rfl) (by kernel_rfl) (by kernel_rfl) ?_
    intro r_ hr_
    have o0_ : r_ (.tmp 2) = .pointer (some ⟨w.heap.size, 0, none⟩) := op_at hr_ 0 (by kernel_rfl) (by kernel_rfl)
    clear hr_
    go_simp; first | done | with_reducible rfl
  simp only [Act.put, planVG, List.setIfInBounds_toArray, List.set_cons_zero, List.set_cons_succ, List.getElem?_cons_zero, List.getElem?_cons_succ]
  refine ⟨?_, ?_⟩
  · as_aux_lemma =>
    intro y_ hS_ hO_ hD
    clear hS_ hO_ hD
    refine s_gen (V := .int .i64 (n)) [.int .i64 (n)] (by kernel_rfl) (by kernel_rfl) (by kernel_rfl) ?_
    intro r_ hr_
    have o0_ : r_ (.tmp 1) = .int .i64 (n) := op_at hr_ 0 (by kernel_rfl) (by kernel_rfl)
    clear hr_
    go_simp; first | done | with_reducible rfl | omega
  simp only [Act.put, planVG, List.setIfInBounds_toArray, List.set_cons_zero, List.set_cons_succ, List.getElem?_cons_zero, List.getElem?_cons_succ]
  refine ⟨?_, ?_⟩
  · as_aux_lemma =>
    intro y_ hS_ hO_ hD
    try clear hS
    clear hS_ hO_ hD
    refine s_gcall (V := .agg #[.int .u64 0, .int .u64 0, .int .u64 0, .int .u64 0]) [.func (.func 22) #[] #[], .agg #[.int .u64 0, .int .u64 0, .int .u64 0, .int .u64 0], .int .i64 (n)] ?_ ?_ (by kernel_rfl) (by kernel_rfl) (by kernel_rfl) ?_ ?_
    rotate_left 2
    · intro r_ hr_
      have o0_ : r_ (.func 22) = .func (.func 22) #[] #[] := op_at hr_ 0 (by kernel_rfl) (by kernel_rfl)
      have o1_ : r_ (.tmp 9) = .agg #[.int .u64 0, .int .u64 0, .int .u64 0, .int .u64 0] := op_at hr_ 1 (by kernel_rfl) (by kernel_rfl)
      have o2_ : r_ (.tmp 10) = .int .i64 (n) := op_at hr_ 2 (by kernel_rfl) (by kernel_rfl)
      clear hr_
      go_simp; first | done | with_reducible rfl | (constructor <;> with_reducible rfl)
    · refine calls_to (V := .agg #[.int .u64 0, .int .u64 0, .int .u64 0, .int .u64 0]) (WideRight_at (IsWide.val u64_zero u64_zero u64_zero u64_zero) n (by omega) (by omega) _) (by rw [HX.out])
  simp only [Act.put, planVG, List.setIfInBounds_toArray, List.set_cons_zero, List.set_cons_succ, List.getElem?_cons_zero, List.getElem?_cons_succ]
  refine ⟨?_, ?_⟩
  · as_aux_lemma =>
    intro y_ hS_ hO_ hD
    have Q := ((hS_ (by rfl)).2.2).cell
    have q0 := Q 0 _ rfl
    have q1 := Q 1 _ rfl
    have q2 := Q 2 _ rfl
    have q3 := Q 3 _ rfl
    clear Q hS_ hO_ hD
    refine s_gen (V := .agg #[.int .u64 0, .int .u64 0, .int .u64 0, .int .u64 0]) [.pointer (some ⟨w.heap.size, 0, none⟩)] (by kernel_rfl) (by kernel_rfl) (by kernel_rfl) ?_
    intro r_ hr_
    have o0_ : r_ (.tmp 2) = .pointer (some ⟨w.heap.size, 0, none⟩) := op_at hr_ 0 (by kernel_rfl) (by kernel_rfl)
    clear hr_
    go_simp; first | done | with_reducible rfl
  simp only [Act.put, planVG, List.setIfInBounds_toArray, List.set_cons_zero, List.set_cons_succ, List.getElem?_cons_zero, List.getElem?_cons_succ]
  refine ⟨?_, ?_⟩
  · as_aux_lemma =>
    intro y_ hS_ hO_ hD
    clear hS_ hO_ hD
    refine s_gen (V := .int .i64 (n)) [.int .i64 (n)] (by kernel_rfl) (by kernel_rfl) (by kernel_rfl) ?_
    intro r_ hr_
    have o0_ : r_ (.tmp 1) = .int .i64 (n) := op_at hr_ 0 (by kernel_rfl) (by kernel_rfl)
    clear hr_
    go_simp; first | done | with_reducible rfl | omega
  simp only [Act.put, planVG, List.setIfInBounds_toArray, List.set_cons_zero, List.set_cons_succ, List.getElem?_cons_zero, List.getElem?_cons_succ]
  refine ⟨?_, ?_⟩
  · as_aux_lemma =>
    intro y_ hS_ hO_ hD
    try clear hS
    clear hS_ hO_ hD
    refine s_gcall (V := .agg #[.int .u64 0, .int .u64 0, .int .u64 0, .int .u64 0]) [.func (.func 23) #[] #[], .agg #[.int .u64 0, .int .u64 0, .int .u64 0, .int .u64 0], .int .i64 (n)] ?_ ?_ (by kernel_rfl) (by kernel_rfl) (by kernel_rfl) ?_ ?_
    rotate_left 2
    · intro r_ hr_
      have o0_ : r_ (.func 23) = .func (.func 23) #[] #[] := op_at hr_ 0 (by kernel_rfl) (by kernel_rfl)
      have o1_ : r_ (.tmp 12) = .agg #[.int .u64 0, .int .u64 0, .int .u64 0, .int .u64 0] := op_at hr_ 1 (by kernel_rfl) (by kernel_rfl)
      have o2_ : r_ (.tmp 13) = .int .i64 (n) := op_at hr_ 2 (by kernel_rfl) (by kernel_rfl)
      clear hr_
      go_simp; first | done | with_reducible rfl | (constructor <;> with_reducible rfl)
    · refine calls_to (V := .agg #[.int .u64 0, .int .u64 0, .int .u64 0, .int .u64 0]) (WideJam_at (IsWide.val u64_zero u64_zero u64_zero u64_zero) n (by omega) (by omega) _) (by rw [HY.out])
  simp only [Act.put, planVG, List.setIfInBounds_toArray, List.set_cons_zero, List.set_cons_succ, List.getElem?_cons_zero, List.getElem?_cons_succ]
  refine ⟨?_, ?_⟩
  · as_aux_lemma =>
    intro y_ hS_ hO_ hD
    clear hS_ hO_ hD
    refine s_alloc (by rfl) (by rfl) ?_
    simp only [allocTy]
    go_simp; first | done | with_reducible rfl | rfl
  simp only [Act.put, planVG, List.setIfInBounds_toArray, List.set_cons_zero, List.set_cons_succ, List.getElem?_cons_zero, List.getElem?_cons_succ]
  refine ⟨?_, ?_⟩
  · as_aux_lemma =>
    intro y_ hS_ hO_ hD
    clear hS_ hO_ hD
    refine s_alloc (by rfl) (by rfl) ?_
    simp only [allocTy]
    go_simp; first | done | with_reducible rfl | rfl
  simp only [Act.put, planVG, List.setIfInBounds_toArray, List.set_cons_zero, List.set_cons_succ, List.getElem?_cons_zero, List.getElem?_cons_succ]
  refine ⟨?_, ?_⟩
  · as_aux_lemma =>
    intro y_ hS_ hO_ hD
    have hS := hS_ (by rfl)
    clear hS hS_ hO_ hD
    refine s_gput (j := 6) (Z := #[.int .u64 0, .int .u64 0, .int .u64 0, .int .u64 0]) (V := [.int .u64 0, .int .u64 0, .int .u64 0, .int .u64 0]) [ρ 6, .agg #[.int .u64 0, .int .u64 0, .int .u64 0, .int .u64 0]] (by kernel_rfl) (by kernel_rfl) (by kernel_rfl) (by kernel_rfl) ?_
    intro r_ b hr_ hb hB F
    have o0_ : r_ (.tmp 5) = ρ 6 := op_at hr_ 0 (by kernel_rfl) (by kernel_rfl)
    have o1_ : r_ (.tmp 11) = .agg #[.int .u64 0, .int .u64 0, .int .u64 0, .int .u64 0] := op_at hr_ 1 (by kernel_rfl) (by kernel_rfl)
    clear hr_
    rw [hb] at o0_
    have Q := F.cell
    have q0 := Q 0 _ rfl
    have q1 := Q 1 _ rfl
    have q2 := Q 2 _ rfl
    have q3 := Q 3 _ rfl
    have Qf := F.free
    have Ql := F.lt
    clear Q F
    simp only [putCells]
    go_simp; first | done | with_reducible rfl | rfl
  simp only [Act.put, planVG, List.setIfInBounds_toArray, List.set_cons_zero, List.set_cons_succ, List.getElem?_cons_zero, List.getElem?_cons_succ]
  refine ⟨?_, ?_⟩
  · as_aux_lemma =>
    intro y_ hS_ hO_ hD
    have hS := hS_ (by rfl)
    clear hS hS_ hO_ hD
    refine s_gput (j := 7) (Z := #[.int .u64 0, .int .u64 0, .int .u64 0, .int .u64 0]) (V := [.int .u64 0, .int .u64 0, .int .u64 0, .int .u64 0]) [ρ 7, .agg #[.int .u64 0, .int .u64 0, .int .u64 0, .int .u64 0]] (by kernel_rfl) (by kernel_rfl) (by kernel_rfl) (by kernel_rfl) ?_
    intro r_ b hr_ hb hB F
    have o0_ : r_ (.tmp 6) = ρ 7 := op_at hr_ 0 (by kernel_rfl) (by kernel_rfl)
    have o1_ : r_ (.tmp 14) = .agg #[.int .u64 0, .int .u64 0, .int .u64 0, .int .u64 0] := op_at hr_ 1 (by kernel_rfl) (by kernel_rfl)
    clear hr_
    rw [hb] at o0_
    have Q := F.cell
    have q0 := Q 0 _ rfl
    have q1 := Q 1 _ rfl
    have q2 := Q 2 _ rfl
    have q3 := Q 3 _ rfl
    have Qf := F.free
    have Ql := F.lt
    clear Q F
    simp only [putCells]
    go_simp; first | done | with_reducible rfl | rfl
  simp only [Act.put, planVG, List.setIfInBounds_toArray, List.set_cons_zero, List.set_cons_succ, List.getElem?_cons_zero, List.getElem?_cons_succ]
  as_aux_lemma =>
    intro w1 hS hF hD_
    change wpList _ _ _ _ _ _
    replace hS := sg_no (by decide) hS
    obtain ⟨hk, hZ1, X1⟩ := hS
    obtain ⟨v1_6, e_v1_6, hv1_6, Bv1_6⟩ : ∃ b, ρ 6 = .pointer (some ⟨b, 0, none⟩) ∧ w.heap.size + 1 ≤ b ∧ Box w1 b #[.int .u64 0, .int .u64 0, .int .u64 0, .int .u64 0] := by
      obtain ⟨b, h1, h2, h3⟩ := hF 6 (by decide)
      exact ⟨b, h1, h2, h3.lt, h3.cell, h3.free⟩
    obtain ⟨v1_7, e_v1_7, hv1_7, Bv1_7⟩ : ∃ b, ρ 7 = .pointer (some ⟨b, 0, none⟩) ∧ w.heap.size + 1 ≤ b ∧ Box w1 b #[.int .u64 0, .int .u64 0, .int .u64 0, .int .u64 0] := by
      obtain ⟨b, h1, h2, h3⟩ := hF 7 (by decide)
      exact ⟨b, h1, h2, h3.lt, h3.cell, h3.free⟩
    have nv1_6_v1_7 : ¬ v1_6 = v1_7 := fun h => hD_ 6 7 (by decide) (by decide) (by decide) (by rfl) (by rfl) (by rw [e_v1_6, e_v1_7, h])
    have nv1_7_v1_6 : ¬ v1_7 = v1_6 := fun h => nv1_6_v1_7 h.symm
    clear hF hD_
    simp only [e_v1_6]
    clear e_v1_6
    simp only [e_v1_7]
    clear e_v1_7
    clear ρ
    have hz_w1 := hk.size
    have X1l := X1.lt
    have X1f := X1.free
    have X1l1 : w.heap.size < w1.heap.size + 1 := by omega
    have X1l2 : w.heap.size < w1.heap.size + 1 + 1 := by omega
    have X1l3 : w.heap.size < w1.heap.size + 1 + 1 + 1 := by omega
    have X10 := X1.cell 0 _ rfl
    have X11 := X1.cell 1 _ rfl
    have X12 := X1.cell 2 _ rfl
    have X13 := X1.cell 3 _ rfl
    have Bv1_6l := Bv1_6.lt
    have Bv1_6f := Bv1_6.free
    have Bv1_6l1 : v1_6 < w1.heap.size + 1 := by omega
    have Bv1_6l2 : v1_6 < w1.heap.size + 1 + 1 := by omega
    have Bv1_6l3 : v1_6 < w1.heap.size + 1 + 1 + 1 := by omega
    have Bv1_60 := Bv1_6.cell 0 _ rfl
    have Bv1_61 := Bv1_6.cell 1 _ rfl
    have Bv1_62 := Bv1_6.cell 2 _ rfl
    have Bv1_63 := Bv1_6.cell 3 _ rfl
    have Bv1_7l := Bv1_7.lt
    have Bv1_7f := Bv1_7.free
    have Bv1_7l1 : v1_7 < w1.heap.size + 1 := by omega
    have Bv1_7l2 : v1_7 < w1.heap.size + 1 + 1 := by omega
    have Bv1_7l3 : v1_7 < w1.heap.size + 1 + 1 + 1 := by omega
    have Bv1_70 := Bv1_7.cell 0 _ rfl
    have Bv1_71 := Bv1_7.cell 1 _ rfl
    have Bv1_72 := Bv1_7.cell 2 _ rfl
    have Bv1_73 := Bv1_7.cell 3 _ rfl
    go_wp2_with fail
    (with_reducible refine (lit_ad474a1d _).mono ?_)
    rintro e w2 ⟨rfl, hb⟩
    have X1' : Box w2 (w.heap.size) #[.int .u64 0, .int .u64 0, .int .u64 0, .int .u64 0] := Box.call hb (by repeat (first | with_reducible assumption | with_reducible apply Box.set10 | with_reducible apply Box.set20 | with_reducible apply Box.set21 | with_reducible apply Box.set40 | with_reducible apply Box.set41 | with_reducible apply Box.set42 | with_reducible apply Box.set43 | with_reducible apply Box.set50 | with_reducible apply Box.set51 | with_reducible apply Box.set52 | with_reducible apply Box.set53 | with_reducible apply Box.set54 | with_reducible apply Box.drew | (with_reducible apply Box.newAt; (try simp only [World.size_alloc, World.size_setCell, World.size_drew]); done) | with_reducible apply Box.alloc | (with_reducible apply Box.other; case hne => ((try simp only [World.size_alloc, World.size_setCell, World.size_drew]); omega))))
    have Bv1_6' : Box w2 (v1_6) #[.int .u64 0, .int .u64 0, .int .u64 0, .int .u64 0] := Box.call hb (by repeat (first | with_reducible assumption | with_reducible apply Box.set10 | with_reducible apply Box.set20 | with_reducible apply Box.set21 | with_reducible apply Box.set40 | with_reducible apply Box.set41 | with_reducible apply Box.set42 | with_reducible apply Box.set43 | with_reducible apply Box.set50 | with_reducible apply Box.set51 | with_reducible apply Box.set52 | with_reducible apply Box.set53 | with_reducible apply Box.set54 | with_reducible apply Box.drew | (with_reducible apply Box.newAt; (try simp only [World.size_alloc, World.size_setCell, World.size_drew]); done) | with_reducible apply Box.alloc | (with_reducible apply Box.other; case hne => ((try simp only [World.size_alloc, World.size_setCell, World.size_drew]); omega))))
    have Bv1_7' : Box w2 (v1_7) #[.int .u64 0, .int .u64 0, .int .u64 0, .int .u64 0] := Box.call hb (by repeat (first | with_reducible assumption | with_reducible apply Box.set10 | with_reducible apply Box.set20 | with_reducible apply Box.set21 | with_reducible apply Box.set40 | with_reducible apply Box.set41 | with_reducible apply Box.set42 | with_reducible apply Box.set43 | with_reducible apply Box.set50 | with_reducible apply Box.set51 | with_reducible apply Box.set52 | with_reducible apply Box.set53 | with_reducible apply Box.set54 | with_reducible apply Box.drew | (with_reducible apply Box.newAt; (try simp only [World.size_alloc, World.size_setCell, World.size_drew]); done) | with_reducible apply Box.alloc | (with_reducible apply Box.other; case hne => ((try simp only [World.size_alloc, World.size_setCell, World.size_drew]); omega))))
    have hk' : Kept w.heap.size w w2 := Kept.step (by repeat (first | with_reducible exact hk | with_reducible exact Kept.refl _ | with_reducible refine Kept.alloc ?_ _ | with_reducible refine Kept.drew ?_ | with_reducible refine Kept.setCell ?_ (by simp only [World.size_alloc, World.size_setCell, World.size_drew]; omega) _)) hb
    clear hk hb
    clear X1 X1l1 X1l2 X1l3 X1f X10 X11 X12 X13
    clear Bv1_6 Bv1_6l1 Bv1_6l2 Bv1_6l3 Bv1_6f Bv1_60 Bv1_61 Bv1_62 Bv1_63
    clear Bv1_7 Bv1_7l1 Bv1_7l2 Bv1_7l3 Bv1_7f Bv1_70 Bv1_71 Bv1_72 Bv1_73
    have X1 := X1'
    clear X1'
    have Bv1_6 := Bv1_6'
    clear Bv1_6'
    have Bv1_7 := Bv1_7'
    clear Bv1_7'
    have hk := hk'
    clear hk'
    have hz_w2 := hk.size
    have X1l := X1.lt
    have X1f := X1.free
    have X1l1 : w.heap.size < w2.heap.size + 1 := by omega
    have X1l2 : w.heap.size < w2.heap.size + 1 + 1 := by omega
    have X1l3 : w.heap.size < w2.heap.size + 1 + 1 + 1 := by omega
    have X10 := X1.cell 0 _ rfl
    have X11 := X1.cell 1 _ rfl
    have X12 := X1.cell 2 _ rfl
    have X13 := X1.cell 3 _ rfl
    have Bv1_6l := Bv1_6.lt
    have Bv1_6f := Bv1_6.free
    have Bv1_6l1 : v1_6 < w2.heap.size + 1 := by omega
    have Bv1_6l2 : v1_6 < w2.heap.size + 1 + 1 := by omega
    have Bv1_6l3 : v1_6 < w2.heap.size + 1 + 1 + 1 := by omega
    have Bv1_60 := Bv1_6.cell 0 _ rfl
    have Bv1_61 := Bv1_6.cell 1 _ rfl
    have Bv1_62 := Bv1_6.cell 2 _ rfl
    have Bv1_63 := Bv1_6.cell 3 _ rfl
    have Bv1_7l := Bv1_7.lt
    have Bv1_7f := Bv1_7.free
    have Bv1_7l1 : v1_7 < w2.heap.size + 1 := by omega
    have Bv1_7l2 : v1_7 < w2.heap.size + 1 + 1 := by omega
    have Bv1_7l3 : v1_7 < w2.heap.size + 1 + 1 + 1 := by omega
    have Bv1_70 := Bv1_7.cell 0 _ rfl
    have Bv1_71 := Bv1_7.cell 1 _ rfl
    have Bv1_72 := Bv1_7.cell 2 _ rfl
    have Bv1_73 := Bv1_7.cell 3 _ rfl
    go_upto_region 3 with fail
    refine wp_region_p 33 (fun W' => Kept w.heap.size w W' ∧ w2.heap.size + 1 ≤ W'.heap.size ∧ Box W' (w.heap.size) #[.int .u64 0, .int .u64 0, .int .u64 0, .int .u64 0] ∧ Box W' (v1_6) #[.int .u64 0, .int .u64 0, .int .u64 0, .int .u64 0] ∧ Box W' (v1_7) #[.int .u64 0, .int .u64 0, .int .u64 0, .int .u64 0] ∧ Box W' (w2.heap.size) #[.int .u64 0, .int .u64 0, .int .u64 0, .int .u64 0]) (fun W' => Kept w.heap.size w W' ∧ w2.heap.size + 1 ≤ W'.heap.size ∧ Box W' (w.heap.size) #[.int .u64 0, .int .u64 0, .int .u64 0, .int .u64 0] ∧ Box W' (v1_6) #[.int .u64 0, .int .u64 0, .int .u64 0, .int .u64 0] ∧ Box W' (v1_7) #[.int .u64 0, .int .u64 0, .int .u64 0, .int .u64 0] ∧ Box W' (w2.heap.size) #[.int .u64 0, .int .u64 0, .int .u64 0, .int .u64 0]) 1000 (w2.heap.size + 1) [.known (.bool false), .known (.bool false), .known (.agg #[.int .u64 0, .int .u64 0, .int .u64 0, .int .u64 0]), .known (.agg #[.int .u64 0, .int .u64 0, .int .u64 0, .int .u64 0]), .known (.bool false), .known (.bool false), .known undef, .known undef, .known undef, .known (.bool false), .known (.bool false), .known (.bool false), .known (.agg #[.int .u64 0, .int .u64 0, .int .u64 0, .int .u64 0]), .known (.int .i64 (n)), .known (.bool false), .known (.bool false), .known undef, .known undef, .known undef, .known undef, .known (.bool false), .known (.bool false), .known (.bool false), .known (.agg #[.int .u64 0, .int .u64 0, .int .u64 0, .int .u64 0]), .known (.int .i64 (n)), .known (.bool false), .known (.bool true), .known (.bool true), .known (.agg #[.int .u64 0, .int .u64 0, .int .u64 0, .int .u64 0]), .known (.agg #[.int .u64 0, .int .u64 0, .int .u64 0, .int .u64 0]), .known (.bool false), .known (.bool false), .known (.bool false)] (by kernel_rfl) (by kernel_rfl) (fun W W' h hb => ⟨h.1.step hb, Nat.le_trans (h.2.1) hb.size, Box.call hb (h.2.2.1), Box.call hb (h.2.2.2.1), Box.call hb (h.2.2.2.2.1), Box.call hb (h.2.2.2.2.2)⟩) (fun W W' h hb => ⟨h.1.step hb, Nat.le_trans (h.2.1) hb.size, Box.call hb (h.2.2.1), Box.call hb (h.2.2.2.1), Box.call hb (h.2.2.2.2.1), Box.call hb (h.2.2.2.2.2)⟩) (no_out (of_decide_eq_true (by kernel_rfl))) (.inl (by kernel_rfl)) (.inl (by kernel_rfl)) (fun _ h => h.2.1) (fun _ h => h.2.1) (⟨(by repeat (first | with_reducible exact hk | with_reducible exact Kept.refl _ | with_reducible refine Kept.alloc ?_ _ | with_reducible refine Kept.drew ?_ | with_reducible refine Kept.setCell ?_ (by simp only [World.size_alloc, World.size_setCell, World.size_drew]; omega) _)), (by (try simp only [World.size_alloc, World.size_setCell, World.size_drew]); omega), (by repeat (first | with_reducible assumption | with_reducible apply Box.set10 | with_reducible apply Box.set20 | with_reducible apply Box.set21 | with_reducible apply Box.set40 | with_reducible apply Box.set41 | with_reducible apply Box.set42 | with_reducible apply Box.set43 | with_reducible apply Box.set50 | with_reducible apply Box.set51 | with_reducible apply Box.set52 | with_reducible apply Box.set53 | with_reducible apply Box.set54 | with_reducible apply Box.drew | (with_reducible apply Box.newAt; (try simp only [World.size_alloc, World.size_setCell, World.size_drew]); done) | with_reducible apply Box.alloc | (with_reducible apply Box.other; case hne => ((try simp only [World.size_alloc, World.size_setCell, World.size_drew]); omega)))), (by repeat (first | with_reducible assumption | with_reducible apply Box.set10 | with_reducible apply Box.set20 | with_reducible apply Box.set21 | with_reducible apply Box.set40 | with_reducible apply Box.set41 | with_reducible apply Box.set42 | with_reducible apply Box.set43 | with_reducible apply Box.set50 | with_reducible apply Box.set51 | with_reducible apply Box.set52 | with_reducible apply Box.set53 | with_reducible apply Box.set54 | with_reducible apply Box.drew | (with_reducible apply Box.newAt; (try simp only [World.size_alloc, World.size_setCell, World.size_drew]); done) | with_reducible apply Box.alloc | (with_reducible apply Box.other; case hne => ((try simp only [World.size_alloc, World.size_setCell, World.size_drew]); omega)))), (by repeat (first | with_reducible assumption | with_reducible apply Box.set10 | with_reducible apply Box.set20 | with_reducible apply Box.set21 | with_reducible apply Box.set40 | with_reducible apply Box.set41 | with_reducible apply Box.set42 | with_reducible apply Box.set43 | with_reducible apply Box.set50 | with_reducible apply Box.set51 | with_reducible apply Box.set52 | with_reducible apply Box.set53 | with_reducible apply Box.set54 | with_reducible apply Box.drew | (with_reducible apply Box.newAt; (try simp only [World.size_alloc, World.size_setCell, World.size_drew]); done) | with_reducible apply Box.alloc | (with_reducible apply Box.other; case hne => ((try simp only [World.size_alloc, World.size_setCell, World.size_drew]); omega)))), (by repeat (first | with_reducible assumption | with_reducible apply Box.set10 | with_reducible apply Box.set20 | with_reducible apply Box.set21 | with_reducible apply Box.set40 | with_reducible apply Box.set41 | with_reducible apply Box.set42 | with_reducible apply Box.set43 | with_reducible apply Box.set50 | with_reducible apply Box.set51 | with_reducible apply Box.set52 | with_reducible apply Box.set53 | with_reducible apply Box.set54 | with_reducible apply Box.drew | (with_reducible apply Box.newAt; (try simp only [World.size_alloc, World.size_setCell, World.size_drew]); done) | with_reducible apply Box.alloc | (with_reducible apply Box.other; case hne => ((try simp only [World.size_alloc, World.size_setCell, World.size_drew]); omega))))⟩) ?_
    clear hk
    clear X1 X1l1 X1l2 X1l3 X1f X10 X11 X12 X13
    clear Bv1_6 Bv1_6l1 Bv1_6l2 Bv1_6l3 Bv1_6f Bv1_60 Bv1_61 Bv1_62 Bv1_63
    clear Bv1_7 Bv1_7l1 Bv1_7l2 Bv1_7l3 Bv1_7f Bv1_70 Bv1_71 Bv1_72 Bv1_73
    intro ρ
    simp only [List.take_succ_cons, List.take_zero, List.drop_succ_cons, List.drop_zero]
    refine ⟨?_, ?_⟩
    · as_aux_lemma =>
      intro y_ hS_ hO_ hD
      clear hS_ hO_ hD
      refine s_gen (V := .bool false) [.bool false] (by kernel_rfl) (by kernel_rfl) (by kernel_rfl) ?_
      intro r_ hr_
      have o0_ : r_ (.tmp 8) = .bool false := op_at hr_ 0 (by kernel_rfl) (by kernel_rfl)
      clear hr_
      go_simp; first | done | with_reducible rfl | omega
    simp only [Act.put, planVG, List.setIfInBounds_toArray, List.set_cons_zero, List.set_cons_succ, List.getElem?_cons_zero, List.getElem?_cons_succ]
    refine ⟨?_, ?_⟩
    · as_aux_lemma =>
      intro y_ hS_ hO_ hD
      clear hS_ hO_ hD
      refine s_gen (V := .bool false) [.bool false] (by kernel_rfl) (by kernel_rfl) (by kernel_rfl) ?_
      intro r_ hr_
      have o0_ : r_ (.tmp 21) = .bool false := op_at hr_ 0 (by kernel_rfl) (by kernel_rfl)
      clear hr_
      go_simp; first | done | with_reducible rfl | omega
    simp only [Act.put, planVG, List.setIfInBounds_toArray, List.set_cons_zero, List.set_cons_succ, List.getElem?_cons_zero, List.getElem?_cons_succ]
    refine ⟨?_, ?_⟩
    · as_aux_lemma =>
      intro y_ hS_ hO_ hD
      have Q := ((hS_ (by rfl)).2.2.2.2.2).cell
      have q0 := Q 0 _ rfl
      have q1 := Q 1 _ rfl
      have q2 := Q 2 _ rfl
      have q3 := Q 3 _ rfl
      clear Q hS_ hO_ hD
      refine s_gen (V := .agg #[.int .u64 0, .int .u64 0, .int .u64 0, .int .u64 0]) [.pointer (some ⟨w2.heap.size, 0, none⟩)] (by kernel_rfl) (by kernel_rfl) (by kernel_rfl) ?_
      intro r_ hr_
      have o0_ : r_ (.tmp 7) = .pointer (some ⟨w2.heap.size, 0, none⟩) := op_at hr_ 0 (by kernel_rfl) (by kernel_rfl)
      clear hr_
      go_simp; first | done | with_reducible rfl
    simp only [Act.put, planVG, List.setIfInBounds_toArray, List.set_cons_zero, List.set_cons_succ, List.getElem?_cons_zero, List.getElem?_cons_succ]
    refine ⟨?_, ?_⟩
    · as_aux_lemma =>
      intro y_ hS_ hO_ hD
      clear hS_ hO_ hD
      refine s_gen (V := .agg #[.int .u64 0, .int .u64 0, .int .u64 0, .int .u64 0]) [] (by kernel_rfl) (by kernel_rfl) (by kernel_rfl) ?_
      intro r_ hr_
      
      clear hr_
      go_simp; first | done | with_reducible rfl | omega
    simp only [Act.put, planVG, List.setIfInBounds_toArray, List.set_cons_zero, List.set_cons_succ, List.getElem?_cons_zero, List.getElem?_cons_succ]
    refine ⟨?_, ?_⟩
    · as_aux_lemma =>
      intro y_ hS_ hO_ hD
      clear hS_ hO_ hD
      refine s_gen (V := .bool false) [.agg #[.int .u64 0, .int .u64 0, .int .u64 0, .int .u64 0], .agg #[.int .u64 0, .int .u64 0, .int .u64 0, .int .u64 0]] (by kernel_rfl) (by kernel_rfl) (by kernel_rfl) ?_
      intro r_ hr_
      have o0_ : r_ (.tmp 23) = .agg #[.int .u64 0, .int .u64 0, .int .u64 0, .int .u64 0] := op_at hr_ 0 (by kernel_rfl) (by kernel_rfl)
      have o1_ : r_ (.tmp 24) = .agg #[.int .u64 0, .int .u64 0, .int .u64 0, .int .u64 0] := op_at hr_ 1 (by kernel_rfl) (by kernel_rfl)
      clear hr_
      go_simp; first | done | with_reducible rfl | omega
    simp only [Act.put, planVG, List.setIfInBounds_toArray, List.set_cons_zero, List.set_cons_succ, List.getElem?_cons_zero, List.getElem?_cons_succ]
    refine ⟨?_, ?_⟩
    · as_aux_lemma =>
      intro y_ hS_ hO_ hD
      clear hS_ hO_ hD
      refine s_gen (V := .bool false) [.bool false] (by kernel_rfl) (by kernel_rfl) (by kernel_rfl) ?_
      intro r_ hr_
      have o0_ : r_ (.tmp 25) = .bool false := op_at hr_ 0 (by kernel_rfl) (by kernel_rfl)
      clear hr_
      go_simp; first | done | with_reducible rfl | omega
    simp only [Act.put, planVG, List.setIfInBounds_toArray, List.set_cons_zero, List.set_cons_succ, List.getElem?_cons_zero, List.getElem?_cons_succ]
    refine ⟨?_, ?_⟩
    · as_aux_lemma =>
      intro y_ hS_ hO_ hD
      exact s_skip (by rfl) (by rfl)
    simp only [Act.put, planVG, List.setIfInBounds_toArray, List.set_cons_zero, List.set_cons_succ, List.getElem?_cons_zero, List.getElem?_cons_succ]
    refine ⟨?_, ?_⟩
    · as_aux_lemma =>
      intro y_ hS_ hO_ hD
      exact s_skip (by rfl) (by rfl)
    simp only [Act.put, planVG, List.setIfInBounds_toArray, List.set_cons_zero, List.set_cons_succ, List.getElem?_cons_zero, List.getElem?_cons_succ]
    refine ⟨?_, ?_⟩
    · as_aux_lemma =>
      intro y_ hS_ hO_ hD
      exact s_skip (by rfl) (by rfl)
    simp only [Act.put, planVG, List.setIfInBounds_toArray, List.set_cons_zero, List.set_cons_succ, List.getElem?_cons_zero, List.getElem?_cons_succ]
    refine ⟨?_, ?_⟩
    · as_aux_lemma =>
      intro y_ hS_ hO_ hD
      clear hS_ hO_ hD
      refine s_gen (V := .bool false) [.bool false, undef, .bool false] (by kernel_rfl) (by kernel_rfl) (by kernel_rfl) ?_
      intro r_ hr_
      have o0_ : r_ (.tmp 26) = .bool false := op_at hr_ 0 (by kernel_rfl) (by kernel_rfl)
      have o1_ : r_ (.tmp 29) = undef := op_at hr_ 1 (by kernel_rfl) (by kernel_rfl)
      have o2_ : r_ (.const (.bool false)) = .bool false := op_at hr_ 2 (by kernel_rfl) (by kernel_rfl)
      clear hr_
      go_simp; first | done | with_reducible rfl | omega
    simp only [Act.put, planVG, List.setIfInBounds_toArray, List.set_cons_zero, List.set_cons_succ, List.getElem?_cons_zero, List.getElem?_cons_succ]
    refine ⟨?_, ?_⟩
    · as_aux_lemma =>
      intro y_ hS_ hO_ hD
      clear hS_ hO_ hD
      refine s_gen (V := .bool false) [.bool false, .bool true, .bool false] (by kernel_rfl) (by kernel_rfl) (by kernel_rfl) ?_
      intro r_ hr_
      have o0_ : r_ (.tmp 22) = .bool false := op_at hr_ 0 (by kernel_rfl) (by kernel_rfl)
      have o1_ : r_ (.const (.bool true)) = .bool true := op_at hr_ 1 (by kernel_rfl) (by kernel_rfl)
      have o2_ : r_ (.tmp 30) = .bool false := op_at hr_ 2 (by kernel_rfl) (by kernel_rfl)
      clear hr_
      go_simp; first | done | with_reducible rfl | omega
    simp only [Act.put, planVG, List.setIfInBounds_toArray, List.set_cons_zero, List.set_cons_succ, List.getElem?_cons_zero, List.getElem?_cons_succ]
    refine ⟨?_, ?_⟩
    · as_aux_lemma =>
      intro y_ hS_ hO_ hD
      clear hS_ hO_ hD
      refine s_gen (V := .bool false) [.bool false] (by kernel_rfl) (by kernel_rfl) (by kernel_rfl) ?_
      intro r_ hr_
      have o0_ : r_ (.tmp 31) = .bool false := op_at hr_ 0 (by kernel_rfl) (by kernel_rfl)
      clear hr_
      go_simp; first | done | with_reducible rfl | omega
    simp only [Act.put, planVG, List.setIfInBounds_toArray, List.set_cons_zero, List.set_cons_succ, List.getElem?_cons_zero, List.getElem?_cons_succ]
    refine ⟨?_, ?_⟩
    · as_aux_lemma =>
      intro y_ hS_ hO_ hD
      have Q := ((hS_ (by rfl)).2.2.1).cell
      have q0 := Q 0 _ rfl
      have q1 := Q 1 _ rfl
      have q2 := Q 2 _ rfl
      have q3 := Q 3 _ rfl
      clear Q hS_ hO_ hD
      refine s_gen (V := .agg #[.int .u64 0, .int .u64 0, .int .u64 0, .int .u64 0]) [.pointer (some ⟨w.heap.size, 0, none⟩)] (by kernel_rfl) (by kernel_rfl) (by kernel_rfl) ?_
      intro r_ hr_
      have o0_ : r_ (.tmp 2) = .pointer (some ⟨w.heap.size, 0, none⟩) := op_at hr_ 0 (by kernel_rfl) (by kernel_rfl)
      clear hr_
      go_simp; first | done | with_reducible rfl
    simp only [Act.put, planVG, List.setIfInBounds_toArray, List.set_cons_zero, List.set_cons_succ, List.getElem?_cons_zero, List.getElem?_cons_succ]
    refine ⟨?_, ?_⟩
    · as_aux_lemma =>
      intro y_ hS_ hO_ hD
      clear hS_ hO_ hD
      refine s_gen (V := .int .i64 (n)) [.int .i64 (n)] (by kernel_rfl) (by kernel_rfl) (by kernel_rfl) ?_
      intro r_ hr_
      have o0_ : r_ (.tmp 1) = .int .i64 (n) := op_at hr_ 0 (by kernel_rfl) (by kernel_rfl)
      clear hr_
      go_simp; first | done | with_reducible rfl | omega
    simp only [Act.put, planVG, List.setIfInBounds_toArray, List.set_cons_zero, List.set_cons_succ, List.getElem?_cons_zero, List.getElem?_cons_succ]
    refine ⟨?_, ?_⟩
    · as_aux_lemma =>
      intro y_ hS_ hO_ hD
      try clear hS
      clear hS_ hO_ hD
      refine s_gcall (V := .bool false) [.func (.func 24) #[] #[], .agg #[.int .u64 0, .int .u64 0, .int .u64 0, .int .u64 0], .int .i64 (n)] ?_ ?_ (by kernel_rfl) (by kernel_rfl) (by kernel_rfl) ?_ ?_
      rotate_left 2
      · intro r_ hr_
        have o0_ : r_ (.func 24) = .func (.func 24) #[] #[] := op_at hr_ 0 (by kernel_rfl) (by kernel_rfl)
        have o1_ : r_ (.tmp 33) = .agg #[.int .u64 0, .int .u64 0, .int .u64 0, .int .u64 0] := op_at hr_ 1 (by kernel_rfl) (by kernel_rfl)
        have o2_ : r_ (.tmp 34) = .int .i64 (n) := op_at hr_ 2 (by kernel_rfl) (by kernel_rfl)
        clear hr_
        go_simp; first | done | with_reducible rfl | (constructor <;> with_reducible rfl)
      · refine calls_to (V := .bool false) (Lost_at (IsWide.val u64_zero u64_zero u64_zero u64_zero) n (by omega) (by omega) _) (by rw [HL.out])
    simp only [Act.put, planVG, List.setIfInBounds_toArray, List.set_cons_zero, List.set_cons_succ, List.getElem?_cons_zero, List.getElem?_cons_succ]
    refine ⟨?_, ?_⟩
    · as_aux_lemma =>
      intro y_ hS_ hO_ hD
      clear hS_ hO_ hD
      refine s_gen (V := .bool false) [.bool false] (by kernel_rfl) (by kernel_rfl) (by kernel_rfl) ?_
      intro r_ hr_
      have o0_ : r_ (.tmp 35) = .bool false := op_at hr_ 0 (by kernel_rfl) (by kernel_rfl)
      clear hr_
      go_simp; first | done | with_reducible rfl | omega
    simp only [Act.put, planVG, List.setIfInBounds_toArray, List.set_cons_zero, List.set_cons_succ, List.getElem?_cons_zero, List.getElem?_cons_succ]
    refine ⟨?_, ?_⟩
    · as_aux_lemma =>
      intro y_ hS_ hO_ hD
      exact s_skip (by rfl) (by rfl)
    simp only [Act.put, planVG, List.setIfInBounds_toArray, List.set_cons_zero, List.set_cons_succ, List.getElem?_cons_zero, List.getElem?_cons_succ]
    refine ⟨?_, ?_⟩
    · as_aux_lemma =>
      intro y_ hS_ hO_ hD
      exact s_skip (by rfl) (by rfl)
    simp only [Act.put, planVG, List.setIfInBounds_toArray, List.set_cons_zero, List.set_cons_succ, List.getElem?_cons_zero, List.getElem?_cons_succ]
    refine ⟨?_, ?_⟩
    · as_aux_lemma =>
      intro y_ hS_ hO_ hD
      exact s_skip (by rfl) (by rfl)
    simp only [Act.put, planVG, List.setIfInBounds_toArray, List.set_cons_zero, List.set_cons_succ, List.getElem?_cons_zero, List.getElem?_cons_succ]
    refine ⟨?_, ?_⟩
    · as_aux_lemma =>
      intro y_ hS_ hO_ hD
      exact s_skip (by rfl) (by rfl)
    simp only [Act.put, planVG, List.setIfInBounds_toArray, List.set_cons_zero, List.set_cons_succ, List.getElem?_cons_zero, List.getElem?_cons_succ]
    refine ⟨?_, ?_⟩
    · as_aux_lemma =>
      intro y_ hS_ hO_ hD
      clear hS_ hO_ hD
      refine s_gen (V := .bool false) [.bool false, undef, .bool false] (by kernel_rfl) (by kernel_rfl) (by kernel_rfl) ?_
      intro r_ hr_
      have o0_ : r_ (.tmp 36) = .bool false := op_at hr_ 0 (by kernel_rfl) (by kernel_rfl)
      have o1_ : r_ (.tmp 40) = undef := op_at hr_ 1 (by kernel_rfl) (by kernel_rfl)
      have o2_ : r_ (.const (.bool false)) = .bool false := op_at hr_ 2 (by kernel_rfl) (by kernel_rfl)
      clear hr_
      go_simp; first | done | with_reducible rfl | omega
    simp only [Act.put, planVG, List.setIfInBounds_toArray, List.set_cons_zero, List.set_cons_succ, List.getElem?_cons_zero, List.getElem?_cons_succ]
    refine ⟨?_, ?_⟩
    · as_aux_lemma =>
      intro y_ hS_ hO_ hD
      clear hS_ hO_ hD
      refine s_gen (V := .bool false) [.bool false, .bool true, .bool false] (by kernel_rfl) (by kernel_rfl) (by kernel_rfl) ?_
      intro r_ hr_
      have o0_ : r_ (.tmp 32) = .bool false := op_at hr_ 0 (by kernel_rfl) (by kernel_rfl)
      have o1_ : r_ (.const (.bool true)) = .bool true := op_at hr_ 1 (by kernel_rfl) (by kernel_rfl)
      have o2_ : r_ (.tmp 41) = .bool false := op_at hr_ 2 (by kernel_rfl) (by kernel_rfl)
      clear hr_
      go_simp; first | done | with_reducible rfl | omega
    simp only [Act.put, planVG, List.setIfInBounds_toArray, List.set_cons_zero, List.set_cons_succ, List.getElem?_cons_zero, List.getElem?_cons_succ]
    refine ⟨?_, ?_⟩
    · as_aux_lemma =>
      intro y_ hS_ hO_ hD
      clear hS_ hO_ hD
      refine s_gen (V := .bool false) [.bool false] (by kernel_rfl) (by kernel_rfl) (by kernel_rfl) ?_
      intro r_ hr_
      have o0_ : r_ (.tmp 42) = .bool false := op_at hr_ 0 (by kernel_rfl) (by kernel_rfl)
      clear hr_
      go_simp; first | done | with_reducible rfl | omega
    simp only [Act.put, planVG, List.setIfInBounds_toArray, List.set_cons_zero, List.set_cons_succ, List.getElem?_cons_zero, List.getElem?_cons_succ]
    refine ⟨?_, ?_⟩
    · as_aux_lemma =>
      intro y_ hS_ hO_ hD
      have Q := ((hS_ (by rfl)).2.2.1).cell
      have q0 := Q 0 _ rfl
      have q1 := Q 1 _ rfl
      have q2 := Q 2 _ rfl
      have q3 := Q 3 _ rfl
      clear Q hS_ hO_ hD
      refine s_gen (V := .agg #[.int .u64 0, .int .u64 0, .int .u64 0, .int .u64 0]) [.pointer (some ⟨w.heap.size, 0, none⟩)] (by kernel_rfl) (by kernel_rfl) (by kernel_rfl) ?_
      intro r_ hr_
      have o0_ : r_ (.tmp 2) = .pointer (some ⟨w.heap.size, 0, none⟩) := op_at hr_ 0 (by kernel_rfl) (by kernel_rfl)
      clear hr_
      go_simp; first | done | with_reducible rfl
    simp only [Act.put, planVG, List.setIfInBounds_toArray, List.set_cons_zero, List.set_cons_succ, List.getElem?_cons_zero, List.getElem?_cons_succ]
    refine ⟨?_, ?_⟩
    · as_aux_lemma =>
      intro y_ hS_ hO_ hD
      clear hS_ hO_ hD
      refine s_gen (V := .int .i64 (n)) [.int .i64 (n)] (by kernel_rfl) (by kernel_rfl) (by kernel_rfl) ?_
      intro r_ hr_
      have o0_ : r_ (.tmp 1) = .int .i64 (n) := op_at hr_ 0 (by kernel_rfl) (by kernel_rfl)
      clear hr_
      go_simp; first | done | with_reducible rfl | omega
    simp only [Act.put, planVG, List.setIfInBounds_toArray, List.set_cons_zero, List.set_cons_succ, List.getElem?_cons_zero, List.getElem?_cons_succ]
    refine ⟨?_, ?_⟩
    · as_aux_lemma =>
      intro y_ hS_ hO_ hD
      try clear hS
      clear hS_ hO_ hD
      refine s_gcall (V := .bool false) [.func (.func 24) #[] #[], .agg #[.int .u64 0, .int .u64 0, .int .u64 0, .int .u64 0], .int .i64 (n)] ?_ ?_ (by kernel_rfl) (by kernel_rfl) (by kernel_rfl) ?_ ?_
      rotate_left 2
      · intro r_ hr_
        have o0_ : r_ (.func 24) = .func (.func 24) #[] #[] := op_at hr_ 0 (by kernel_rfl) (by kernel_rfl)
        have o1_ : r_ (.tmp 44) = .agg #[.int .u64 0, .int .u64 0, .int .u64 0, .int .u64 0] := op_at hr_ 1 (by kernel_rfl) (by kernel_rfl)
        have o2_ : r_ (.tmp 45) = .int .i64 (n) := op_at hr_ 2 (by kernel_rfl) (by kernel_rfl)
        clear hr_
        go_simp; first | done | with_reducible rfl | (constructor <;> with_reducible rfl)
      · refine calls_to (V := .bool false) (Lost_at (IsWide.val u64_zero u64_zero u64_zero u64_zero) n (by omega) (by omega) _) (by rw [HL.out])
    simp only [Act.put, planVG, List.setIfInBounds_toArray, List.set_cons_zero, List.set_cons_succ, List.getElem?_cons_zero, List.getElem?_cons_succ]
    refine ⟨?_, ?_⟩
    · as_aux_lemma =>
      intro y_ hS_ hO_ hD
      clear hS_ hO_ hD
      refine s_gen (V := .bool true) [.bool false] (by kernel_rfl) (by kernel_rfl) (by kernel_rfl) ?_
      intro r_ hr_
      have o0_ : r_ (.tmp 46) = .bool false := op_at hr_ 0 (by kernel_rfl) (by kernel_rfl)
      clear hr_
      go_simp; first | done | with_reducible rfl | omega
    simp only [Act.put, planVG, List.setIfInBounds_toArray, List.set_cons_zero, List.set_cons_succ, List.getElem?_cons_zero, List.getElem?_cons_succ]
    refine ⟨?_, ?_⟩
    · as_aux_lemma =>
      intro y_ hS_ hO_ hD
      clear hS_ hO_ hD
      refine s_gen (V := .bool true) [.bool true] (by kernel_rfl) (by kernel_rfl) (by kernel_rfl) ?_
      intro r_ hr_
      have o0_ : r_ (.tmp 47) = .bool true := op_at hr_ 0 (by kernel_rfl) (by kernel_rfl)
      clear hr_
      go_simp; first | done | with_reducible rfl | omega
    simp only [Act.put, planVG, List.setIfInBounds_toArray, List.set_cons_zero, List.set_cons_succ, List.getElem?_cons_zero, List.getElem?_cons_succ]
    refine ⟨?_, ?_⟩
    · as_aux_lemma =>
      intro y_ hS_ hO_ hD
      have Q := ((hS_ (by rfl)).2.2.2.2.1).cell
      have q0 := Q 0 _ rfl
      have q1 := Q 1 _ rfl
      have q2 := Q 2 _ rfl
      have q3 := Q 3 _ rfl
      clear Q hS_ hO_ hD
      refine s_gen (V := .agg #[.int .u64 0, .int .u64 0, .int .u64 0, .int .u64 0]) [.pointer (some ⟨v1_7, 0, none⟩)] (by kernel_rfl) (by kernel_rfl) (by kernel_rfl) ?_
      intro r_ hr_
      have o0_ : r_ (.tmp 6) = .pointer (some ⟨v1_7, 0, none⟩) := op_at hr_ 0 (by kernel_rfl) (by kernel_rfl)
      clear hr_
      go_simp; first | done | with_reducible rfl
    simp only [Act.put, planVG, List.setIfInBounds_toArray, List.set_cons_zero, List.set_cons_succ, List.getElem?_cons_zero, List.getElem?_cons_succ]
    refine ⟨?_, ?_⟩
    · as_aux_lemma =>
      intro y_ hS_ hO_ hD
      have Q := ((hS_ (by rfl)).2.2.2.1).cell
      have q0 := Q 0 _ rfl
      have q1 := Q 1 _ rfl
      have q2 := Q 2 _ rfl
      have q3 := Q 3 _ rfl
      clear Q hS_ hO_ hD
      refine s_gen (V := .agg #[.int .u64 0, .int .u64 0, .int .u64 0, .int .u64 0]) [.pointer (some ⟨v1_6, 0, none⟩)] (by kernel_rfl) (by kernel_rfl) (by kernel_rfl) ?_
      intro r_ hr_
      have o0_ : r_ (.tmp 5) = .pointer (some ⟨v1_6, 0, none⟩) := op_at hr_ 0 (by kernel_rfl) (by kernel_rfl)
      clear hr_
      go_simp; first | done | with_reducible rfl
    simp only [Act.put, planVG, List.setIfInBounds_toArray, List.set_cons_zero, List.set_cons_succ, List.getElem?_cons_zero, List.getElem?_cons_succ]
    refine ⟨?_, ?_⟩
    · as_aux_lemma =>
      intro y_ hS_ hO_ hD
      clear hS_ hO_ hD
      refine s_gen (V := .bool false) [.agg #[.int .u64 0, .int .u64 0, .int .u64 0, .int .u64 0], .agg #[.int .u64 0, .int .u64 0, .int .u64 0, .int .u64 0]] (by kernel_rfl) (by kernel_rfl) (by kernel_rfl) ?_
      intro r_ hr_
      have o0_ : r_ (.tmp 49) = .agg #[.int .u64 0, .int .u64 0, .int .u64 0, .int .u64 0] := op_at hr_ 0 (by kernel_rfl) (by kernel_rfl)
      have o1_ : r_ (.tmp 50) = .agg #[.int .u64 0, .int .u64 0, .int .u64 0, .int .u64 0] := op_at hr_ 1 (by kernel_rfl) (by kernel_rfl)
      clear hr_
      go_simp; first | done | with_reducible rfl | omega
    simp only [Act.put, planVG, List.setIfInBounds_toArray, List.set_cons_zero, List.set_cons_succ, List.getElem?_cons_zero, List.getElem?_cons_succ]
    refine ⟨?_, ?_⟩
    · as_aux_lemma =>
      intro y_ hS_ hO_ hD
      clear hS_ hO_ hD
      refine s_gen (V := .bool false) [.bool true, .bool false, .bool false] (by kernel_rfl) (by kernel_rfl) (by kernel_rfl) ?_
      intro r_ hr_
      have o0_ : r_ (.tmp 48) = .bool true := op_at hr_ 0 (by kernel_rfl) (by kernel_rfl)
      have o1_ : r_ (.tmp 51) = .bool false := op_at hr_ 1 (by kernel_rfl) (by kernel_rfl)
      have o2_ : r_ (.const (.bool false)) = .bool false := op_at hr_ 2 (by kernel_rfl) (by kernel_rfl)
      clear hr_
      go_simp; first | done | with_reducible rfl | omega
    simp only [Act.put, planVG, List.setIfInBounds_toArray, List.set_cons_zero, List.set_cons_succ, List.getElem?_cons_zero, List.getElem?_cons_succ]
    refine ⟨?_, ?_⟩
    · as_aux_lemma =>
      intro y_ hS_ hO_ hD
      clear hS_ hO_ hD
      refine s_gen (V := .bool false) [.bool false, .bool true, .bool false] (by kernel_rfl) (by kernel_rfl) (by kernel_rfl) ?_
      intro r_ hr_
      have o0_ : r_ (.tmp 43) = .bool false := op_at hr_ 0 (by kernel_rfl) (by kernel_rfl)
      have o1_ : r_ (.const (.bool true)) = .bool true := op_at hr_ 1 (by kernel_rfl) (by kernel_rfl)
      have o2_ : r_ (.tmp 52) = .bool false := op_at hr_ 2 (by kernel_rfl) (by kernel_rfl)
      clear hr_
      go_simp; first | done | with_reducible rfl | omega
    simp only [Act.put, planVG, List.setIfInBounds_toArray, List.set_cons_zero, List.set_cons_succ, List.getElem?_cons_zero, List.getElem?_cons_succ]
    as_aux_lemma =>
      intro w3 hS hF hD_
      change wpList _ _ _ _ _ _
      replace hS := sg_no (by decide) hS
      obtain ⟨hk, hZ3, X1, Bv1_6, Bv1_7, X2⟩ := hS
      clear hF hD_
      clear ρ
      have hz_w3 := hk.size
      have X1l := X1.lt
      have X1f := X1.free
      have X1l1 : w.heap.size < w3.heap.size + 1 := by omega
      have X1l2 : w.heap.size < w3.heap.size + 1 + 1 := by omega
      have X1l3 : w.heap.size < w3.heap.size + 1 + 1 + 1 := by omega
      have X10 := X1.cell 0 _ rfl
      have X11 := X1.cell 1 _ rfl
      have X12 := X1.cell 2 _ rfl
      have X13 := X1.cell 3 _ rfl
      have Bv1_6l := Bv1_6.lt
      have Bv1_6f := Bv1_6.free
      have Bv1_6l1 : v1_6 < w3.heap.size + 1 := by omega
      have Bv1_6l2 : v1_6 < w3.heap.size + 1 + 1 := by omega
      have Bv1_6l3 : v1_6 < w3.heap.size + 1 + 1 + 1 := by omega
      have Bv1_60 := Bv1_6.cell 0 _ rfl
      have Bv1_61 := Bv1_6.cell 1 _ rfl
      have Bv1_62 := Bv1_6.cell 2 _ rfl
      have Bv1_63 := Bv1_6.cell 3 _ rfl
      have Bv1_7l := Bv1_7.lt
      have Bv1_7f := Bv1_7.free
      have Bv1_7l1 : v1_7 < w3.heap.size + 1 := by omega
      have Bv1_7l2 : v1_7 < w3.heap.size + 1 + 1 := by omega
      have Bv1_7l3 : v1_7 < w3.heap.size + 1 + 1 + 1 := by omega
      have Bv1_70 := Bv1_7.cell 0 _ rfl
      have Bv1_71 := Bv1_7.cell 1 _ rfl
      have Bv1_72 := Bv1_7.cell 2 _ rfl
      have Bv1_73 := Bv1_7.cell 3 _ rfl
      have X2l := X2.lt
      have X2f := X2.free
      have X2l1 : w2.heap.size < w3.heap.size + 1 := by omega
      have X2l2 : w2.heap.size < w3.heap.size + 1 + 1 := by omega
      have X2l3 : w2.heap.size < w3.heap.size + 1 + 1 + 1 := by omega
      have X20 := X2.cell 0 _ rfl
      have X21 := X2.cell 1 _ rfl
      have X22 := X2.cell 2 _ rfl
      have X23 := X2.cell 3 _ rfl
      go_wp2
      refine wp_region_g 11 (fun W' => Kept w.heap.size w W' ∧ w3.heap.size ≤ W'.heap.size ∧ Box W' (w.heap.size) #[.int .u64 0, .int .u64 0, .int .u64 0, .int .u64 0] ∧ Box W' (v1_7) #[.int .u64 0, .int .u64 0, .int .u64 0, .int .u64 0]) (fun W' => Kept w.heap.size w W' ∧ w3.heap.size ≤ W'.heap.size ∧ Box W' (w.heap.size) #[.int .u64 0, .int .u64 0, .int .u64 0, .int .u64 0] ∧ Box W' (v1_7) #[.int .u64 0, .int .u64 0, .int .u64 0, .int .u64 0]) 1000 (w3.heap.size) [.known (.agg #[.int .u64 0, .int .u64 0, .int .u64 0, .int .u64 0]), .known (.agg #[.int .u64 0, .int .u64 0, .int .u64 0, .int .u64 0]), .known (.bool true), .known (.agg #[.int .u64 0, .int .u64 0, .int .u64 0, .int .u64 0]), .known (.agg #[.int .u64 0, .int .u64 0, .int .u64 0, .int .u64 0]), .known (.bool true), .known (.bool true), .known (.bool true), .known (.bool true), .known (.bool true), .known (.bool true)] (by kernel_rfl) (by kernel_rfl) (fun W W' h hb => ⟨h.1.step hb, Nat.le_trans (h.2.1) hb.size, Box.call hb (h.2.2.1), Box.call hb (h.2.2.2)⟩) (fun W W' h hb => ⟨h.1.step hb, Nat.le_trans (h.2.1) hb.size, Box.call hb (h.2.2.1), Box.call hb (h.2.2.2)⟩) (no_out (of_decide_eq_true (by kernel_rfl))) (.inl (by kernel_rfl)) (.inl (by kernel_rfl)) (fun _ h => h.2.1) (fun _ h => h.2.1) (⟨(by repeat (first | with_reducible exact hk | with_reducible exact Kept.refl _ | with_reducible refine Kept.alloc ?_ _ | with_reducible refine Kept.drew ?_ | with_reducible refine Kept.setCell ?_ (by simp only [World.size_alloc, World.size_setCell, World.size_drew]; omega) _)), (by (try simp only [World.size_alloc, World.size_setCell, World.size_drew]); omega), (by repeat (first | with_reducible assumption | with_reducible apply Box.set10 | with_reducible apply Box.set20 | with_reducible apply Box.set21 | with_reducible apply Box.set40 | with_reducible apply Box.set41 | with_reducible apply Box.set42 | with_reducible apply Box.set43 | with_reducible apply Box.set50 | with_reducible apply Box.set51 | with_reducible apply Box.set52 | with_reducible apply Box.set53 | with_reducible apply Box.set54 | with_reducible apply Box.drew | (with_reducible apply Box.newAt; (try simp only [World.size_alloc, World.size_setCell, World.size_drew]); done) | with_reducible apply Box.alloc | (with_reducible apply Box.other; case hne => ((try simp only [World.size_alloc, World.size_setCell, World.size_drew]); omega)))), (by repeat (first | with_reducible assumption | with_reducible apply Box.set10 | with_reducible apply Box.set20 | with_reducible apply Box.set21 | with_reducible apply Box.set40 | with_reducible apply Box.set41 | with_reducible apply Box.set42 | with_reducible apply Box.set43 | with_reducible apply Box.set50 | with_reducible apply Box.set51 | with_reducible apply Box.set52 | with_reducible apply Box.set53 | with_reducible apply Box.set54 | with_reducible apply Box.drew | (with_reducible apply Box.newAt; (try simp only [World.size_alloc, World.size_setCell, World.size_drew]); done) | with_reducible apply Box.alloc | (with_reducible apply Box.other; case hne => ((try simp only [World.size_alloc, World.size_setCell, World.size_drew]); omega))))⟩) ?_
      clear hk
      clear X1 X1l1 X1l2 X1l3 X1f X10 X11 X12 X13
      clear Bv1_6 Bv1_6l1 Bv1_6l2 Bv1_6l3 Bv1_6f Bv1_60 Bv1_61 Bv1_62 Bv1_63
      clear Bv1_7 Bv1_7l1 Bv1_7l2 Bv1_7l3 Bv1_7f Bv1_70 Bv1_71 Bv1_72 Bv1_73
      clear X2 X2l1 X2l2 X2l3 X2f X20 X21 X22 X23
      intro ρ
      simp only [List.take_succ_cons, List.take_zero, List.drop_succ_cons, List.drop_zero]
      refine ⟨?_, ?_⟩
      · as_aux_lemma =>
        intro y_ hS_ hO_ hD
        have Q := ((hS_ (by rfl)).2.2.2).cell
        have q0 := Q 0 _ rfl
        have q1 := Q 1 _ rfl
        have q2 := Q 2 _ rfl
        have q3 := Q 3 _ rfl
        clear Q hS_ hO_ hD
        refine s_gen (V := .agg #[.int .u64 0, .int .u64 0, .int .u64 0, .int .u64 0]) [.pointer (some ⟨v1_7, 0, none⟩)] (by kernel_rfl) (by kernel_rfl) (by kernel_rfl) ?_
        intro r_ hr_
        have o0_ : r_ (.tmp 6) = .pointer (some ⟨v1_7, 0, none⟩) := op_at hr_ 0 (by kernel_rfl) (by kernel_rfl)
        clear hr_
        go_simp; first | done | with_reducible rfl
      simp only [Act.put, planVG, List.setIfInBounds_toArray, List.set_cons_zero, List.set_cons_succ, List.getElem?_cons_zero, List.getElem?_cons_succ]
      refine ⟨?_, ?_⟩
      · as_aux_lemma =>
        intro y_ hS_ hO_ hD
        clear hS_ hO_ hD
        refine s_gen (V := .agg #[.int .u64 0, .int .u64 0, .int .u64 0, .int .u64 0]) [] (by kernel_rfl) (by kernel_rfl) (by kernel_rfl) ?_
        intro r_ hr_
        
        clear hr_
        go_simp; first | done | with_reducible rfl | omega
      simp only [Act.put, planVG, List.setIfInBounds_toArray, List.set_cons_zero, List.set_cons_succ, List.getElem?_cons_zero, List.getElem?_cons_succ]
      refine ⟨?_, ?_⟩
      · as_aux_lemma =>
        intro y_ hS_ hO_ hD
        clear hS_ hO_ hD
        refine s_gen (V := .bool true) [.agg #[.int .u64 0, .int .u64 0, .int .u64 0, .int .u64 0], .agg #[.int .u64 0, .int .u64 0, .int .u64 0, .int .u64 0]] (by kernel_rfl) (by kernel_rfl) (by kernel_rfl) ?_
        intro r_ hr_
        have o0_ : r_ (.tmp 54) = .agg #[.int .u64 0, .int .u64 0, .int .u64 0, .int .u64 0] := op_at hr_ 0 (by kernel_rfl) (by kernel_rfl)
        have o1_ : r_ (.tmp 55) = .agg #[.int .u64 0, .int .u64 0, .int .u64 0, .int .u64 0] := op_at hr_ 1 (by kernel_rfl) (by kernel_rfl)
        clear hr_
        go_simp; first | done | with_reducible rfl | omega
      simp only [Act.put, planVG, List.setIfInBounds_toArray, List.set_cons_zero, List.set_cons_succ, List.getElem?_cons_zero, List.getElem?_cons_succ]
      refine ⟨?_, ?_⟩
      · as_aux_lemma =>
        intro y_ hS_ hO_ hD
        have Q := ((hS_ (by rfl)).2.2.1).cell
        have q0 := Q 0 _ rfl
        have q1 := Q 1 _ rfl
        have q2 := Q 2 _ rfl
        have q3 := Q 3 _ rfl
        clear Q hS_ hO_ hD
        refine s_gen (V := .agg #[.int .u64 0, .int .u64 0, .int .u64 0, .int .u64 0]) [.pointer (some ⟨w.heap.size, 0, none⟩)] (by kernel_rfl) (by kernel_rfl) (by kernel_rfl) ?_
        intro r_ hr_
        have o0_ : r_ (.tmp 2) = .pointer (some ⟨w.heap.size, 0, none⟩) := op_at hr_ 0 (by kernel_rfl) (by kernel_rfl)
        clear hr_
        go_simp; first | done | with_reducible rfl
      simp only [Act.put, planVG, List.setIfInBounds_toArray, List.set_cons_zero, List.set_cons_succ, List.getElem?_cons_zero, List.getElem?_cons_succ]
      refine ⟨?_, ?_⟩
      · as_aux_lemma =>
        intro y_ hS_ hO_ hD
        clear hS_ hO_ hD
        refine s_gen (V := .agg #[.int .u64 0, .int .u64 0, .int .u64 0, .int .u64 0]) [] (by kernel_rfl) (by kernel_rfl) (by kernel_rfl) ?_
        intro r_ hr_
        
        clear hr_
        go_simp; first | done | with_reducible rfl | omega
      simp only [Act.put, planVG, List.setIfInBounds_toArray, List.set_cons_zero, List.set_cons_succ, List.getElem?_cons_zero, List.getElem?_cons_succ]
      refine ⟨?_, ?_⟩
      · as_aux_lemma =>
        intro y_ hS_ hO_ hD
        clear hS_ hO_ hD
        refine s_gen (V := .bool true) [.agg #[.int .u64 0, .int .u64 0, .int .u64 0, .int .u64 0], .agg #[.int .u64 0, .int .u64 0, .int .u64 0, .int .u64 0]] (by kernel_rfl) (by kernel_rfl) (by kernel_rfl) ?_
        intro r_ hr_
        have o0_ : r_ (.tmp 57) = .agg #[.int .u64 0, .int .u64 0, .int .u64 0, .int .u64 0] := op_at hr_ 0 (by kernel_rfl) (by kernel_rfl)
        have o1_ : r_ (.tmp 58) = .agg #[.int .u64 0, .int .u64 0, .int .u64 0, .int .u64 0] := op_at hr_ 1 (by kernel_rfl) (by kernel_rfl)
        clear hr_
        go_simp; first | done | with_reducible rfl | omega
      simp only [Act.put, planVG, List.setIfInBounds_toArray, List.set_cons_zero, List.set_cons_succ, List.getElem?_cons_zero, List.getElem?_cons_succ]
      refine ⟨?_, ?_⟩
      · as_aux_lemma =>
        intro y_ hS_ hO_ hD
        clear hS_ hO_ hD
        refine s_gen (V := .bool true) [.bool true, .bool true] (by kernel_rfl) (by kernel_rfl) (by kernel_rfl) ?_
        intro r_ hr_
        have o0_ : r_ (.tmp 56) = .bool true := op_at hr_ 0 (by kernel_rfl) (by kernel_rfl)
        have o1_ : r_ (.tmp 59) = .bool true := op_at hr_ 1 (by kernel_rfl) (by kernel_rfl)
        clear hr_
        go_simp; first | done | with_reducible rfl | omega
      simp only [Act.put, planVG, List.setIfInBounds_toArray, List.set_cons_zero, List.set_cons_succ, List.getElem?_cons_zero, List.getElem?_cons_succ]
      refine ⟨?_, ?_⟩
      · as_aux_lemma =>
        intro y_ hS_ hO_ hD
        clear hS_ hO_ hD
        refine s_gen (V := .bool true) [.bool true] (by kernel_rfl) (by kernel_rfl) (by kernel_rfl) ?_
        intro r_ hr_
        have o0_ : r_ (.tmp 60) = .bool true := op_at hr_ 0 (by kernel_rfl) (by kernel_rfl)
        clear hr_
        go_simp; first | done | with_reducible rfl | omega
      simp only [Act.put, planVG, List.setIfInBounds_toArray, List.set_cons_zero, List.set_cons_succ, List.getElem?_cons_zero, List.getElem?_cons_succ]
      refine ⟨?_, ?_⟩
      · as_aux_lemma =>
        intro y_ hS_ hO_ hD
        try clear hS
        clear hS_ hO_ hD
        refine s_gcall (V := .bool true) [.func (.func 18) #[] #[]] ?_ ?_ (by kernel_rfl) (by kernel_rfl) (by kernel_rfl) ?_ ?_
        rotate_left 2
        · intro r_ hr_
          have o0_ : r_ (.func 18) = .func (.func 18) #[] #[] := op_at hr_ 0 (by kernel_rfl) (by kernel_rfl)
          clear hr_
          go_simp; first | done | with_reducible rfl | (constructor <;> with_reducible rfl)
        · refine goes03_any _
      simp only [Act.put, planVG, List.setIfInBounds_toArray, List.set_cons_zero, List.set_cons_succ, List.getElem?_cons_zero, List.getElem?_cons_succ]
      refine ⟨?_, ?_⟩
      · as_aux_lemma =>
        intro y_ hS_ hO_ hD
        clear hS_ hO_ hD
        refine s_gen (V := .bool true) [.bool true, .bool true, .bool false] (by kernel_rfl) (by kernel_rfl) (by kernel_rfl) ?_
        intro r_ hr_
        have o0_ : r_ (.tmp 61) = .bool true := op_at hr_ 0 (by kernel_rfl) (by kernel_rfl)
        have o1_ : r_ (.tmp 62) = .bool true := op_at hr_ 1 (by kernel_rfl) (by kernel_rfl)
        have o2_ : r_ (.const (.bool false)) = .bool false := op_at hr_ 2 (by kernel_rfl) (by kernel_rfl)
        clear hr_
        go_simp; first | done | with_reducible rfl | omega
      simp only [Act.put, planVG, List.setIfInBounds_toArray, List.set_cons_zero, List.set_cons_succ, List.getElem?_cons_zero, List.getElem?_cons_succ]
      refine ⟨?_, ?_⟩
      · as_aux_lemma =>
        intro y_ hS_ hO_ hD
        clear hS_ hO_ hD
        refine s_gen (V := .bool true) [.bool true] (by kernel_rfl) (by kernel_rfl) (by kernel_rfl) ?_
        intro r_ hr_
        have o0_ : r_ (.tmp 63) = .bool true := op_at hr_ 0 (by kernel_rfl) (by kernel_rfl)
        clear hr_
        go_simp; first | done | with_reducible rfl | omega
      simp only [Act.put, planVG, List.setIfInBounds_toArray, List.set_cons_zero, List.set_cons_succ, List.getElem?_cons_zero, List.getElem?_cons_succ]
      as_aux_lemma =>
        intro w4 hS hF hD_
        change wpList _ _ _ _ _ _
        replace hS := sg_no (by decide) hS
        obtain ⟨hk, hZ4, X1, Bv1_7⟩ := hS
        clear hF hD_
        clear ρ
        have hz_w4 := hk.size
        have X1l := X1.lt
        have X1f := X1.free
        have X1l1 : w.heap.size < w4.heap.size + 1 := by omega
        have X1l2 : w.heap.size < w4.heap.size + 1 + 1 := by omega
        have X1l3 : w.heap.size < w4.heap.size + 1 + 1 + 1 := by omega
        have X10 := X1.cell 0 _ rfl
        have X11 := X1.cell 1 _ rfl
        have X12 := X1.cell 2 _ rfl
        have X13 := X1.cell 3 _ rfl
        have Bv1_7l := Bv1_7.lt
        have Bv1_7f := Bv1_7.free
        have Bv1_7l1 : v1_7 < w4.heap.size + 1 := by omega
        have Bv1_7l2 : v1_7 < w4.heap.size + 1 + 1 := by omega
        have Bv1_7l3 : v1_7 < w4.heap.size + 1 + 1 + 1 := by omega
        have Bv1_70 := Bv1_7.cell 0 _ rfl
        have Bv1_71 := Bv1_7.cell 1 _ rfl
        have Bv1_72 := Bv1_7.cell 2 _ rfl
        have Bv1_73 := Bv1_7.cell 3 _ rfl
        go_wp2
        go_ret
        exact ⟨rfl, (by refine Kept.below ?_; repeat (first | with_reducible exact hk | with_reducible exact Kept.refl _ | with_reducible refine Kept.alloc ?_ _ | with_reducible refine Kept.drew ?_ | with_reducible refine Kept.setCell ?_ (by simp only [World.size_alloc, World.size_setCell, World.size_drew]; omega) _))⟩

set_option maxRecDepth 100000 in
set_option maxHeartbeats 8000000 in
theorem ShiftJams_same {A X : Nat} {n : Int} (hA : W256 A) (hX : W256 X) (n0 : -9223372036854775808 ≤ n) (n1 : n ≤ 9223372036854775807) (hA0 : A ≠ 0) (hY0 : X ≠ 0) (hL : lostB A n = false) (eX : rightN A n = X) (eY : jamN A n = X) (eD : wideV (sub256 X X) = .agg #[.int .u64 0, .int .u64 0, .int .u64 0, .int .u64 0]) (eB : ltB X X = false) (w : World) :
    Calls Try.prog 5 #[wideV A, .int .i64 n] w fun e w' => e = .returned (.bool true) ∧ Below w.heap.size w w' := by
  have hk := Kept.refl w
  have HL := Lib.hid hL; have HX := Lib.hid eX; have HY := Lib.hid eY; have HD := Lib.hid eD; have HB := Lib.hid eB
  have q1 : eqW (limb 0 A) (limb 1 A) (limb 2 A) (limb 3 A) 0 0 0 0 = false := by rw [eqW_at (IsWide.of hA) (IsWide.val u64_zero u64_zero u64_zero u64_zero)]; exact decide_eq_false hA0
  have q2 : eqW (limb 0 X) (limb 1 X) (limb 2 X) (limb 3 X) 0 0 0 0 = false := by rw [eqW_at (IsWide.of hX) (IsWide.val u64_zero u64_zero u64_zero u64_zero)]; exact decide_eq_false hY0
  have q3 : eqW 0 0 0 0 1 0 0 0 = false := by decide
  have q4 : eqW 1 0 0 0 0 0 0 0 = false := by decide
  clear hL eX eY eD eB hA0 hY0
  go_enter Try.func5, Try.ntmps5
  go_wp2
  refine wp_region_g 10 (fun W' => Kept w.heap.size w W' ∧ w.heap.size + 1 ≤ W'.heap.size ∧ Box W' (w.heap.size) #[.int .u64 (limb 0 A), .int .u64 (limb 1 A), .int .u64 (limb 2 A), .int .u64 (limb 3 A)]) (fun W' => Kept w.heap.size w W' ∧ w.heap.size + 1 ≤ W'.heap.size ∧ Box W' (w.heap.size) #[.int .u64 (limb 0 A), .int .u64 (limb 1 A), .int .u64 (limb 2 A), .int .u64 (limb 3 A)]) 1000 (w.heap.size + 1) [.known (wideV A), .known (.int .i64 (n)), .known (wideV X), .known (wideV A), .known (.int .i64 (n)), .known (wideV X), .var #[.int .u64 0, .int .u64 0, .int .u64 0, .int .u64 0] 8 [.int .u64 (limb 0 X), .int .u64 (limb 1 X), .int .u64 (limb 2 X), .int .u64 (limb 3 X)], .var #[.int .u64 0, .int .u64 0, .int .u64 0, .int .u64 0] 9 [.int .u64 (limb 0 X), .int .u64 (limb 1 X), .int .u64 (limb 2 X), .int .u64 (limb 3 X)], .put 6, .put 7] (by kernel_rfl) (by kernel_rfl) (fun W W' h hb => ⟨h.1.step hb, Nat.le_trans (h.2.1) hb.size, Box.call hb (h.2.2)⟩) (fun W W' h hb => ⟨h.1.step hb, Nat.le_trans (h.2.1) hb.size, Box.call hb (h.2.2)⟩) (no_out (of_decide_eq_true (by kernel_rfl))) (.inr (fun W' b i v hb h => ⟨h.1.setCell (p := ⟨b, i, none⟩) (by simp only []; omega) v, (by rw [World.size_setCell]; exact h.2.1), (h.2.2).other (by omega)⟩)) (.inr (fun W' b i v hb h => ⟨h.1.setCell (p := ⟨b, i, none⟩) (by simp only []; omega) v, (by rw [World.size_setCell]; exact h.2.1), (h.2.2).other (by omega)⟩)) (fun _ h => h.2.1) (fun _ h => h.2.1) (⟨(by repeat (first | with_reducible exact hk | with_reducible exact Kept.refl _ | with_reducible refine Kept.alloc ?_ _ | with_reducible refine Kept.drew ?_ | with_reducible refine Kept.setCell ?_ (by simp only [World.size_alloc, World.size_setCell, World.size_drew]; omega) _)), (by (try simp only [World.size_alloc, World.size_setCell, World.size_drew]); omega), (by repeat (first | with_reducible assumption | with_reducible apply Box.set10 | with_reducible apply Box.set20 | with_reducible apply Box.set21 | with_reducible apply Box.set40 | with_reducible apply Box.set41 | with_reducible apply Box.set42 | with_reducible apply Box.set43 | with_reducible apply Box.set50 | with_reducible apply Box.set51 | with_reducible apply Box.set52 | with_reducible apply Box.set53 | with_reducible apply Box.set54 | with_reducible apply Box.drew | (with_reducible apply Box.newAt; (try simp only [World.size_alloc, World.size_setCell, World.size_drew]); done) | with_reducible apply Box.alloc | (with_reducible apply Box.other; case hne => ((try simp only [World.size_alloc, World.size_setCell, World.size_drew]); omega))))⟩) ?_
  clear hk
  intro ρ
  simp only [List.take_succ_cons, List.take_zero, List.drop_succ_cons, List.drop_zero]
  refine ⟨?_, ?_⟩
  · as_aux_lemma =>
    intro y_ hS_ hO_ hD
    have Q := ((hS_ (by rfl)).2.2).cell
    have q0 := Q 0 _ rfl
    have q1 := Q 1 _ rfl
    have q2 := Q 2 _ rfl
    have q3 := Q 3 _ rfl
    clear Q hS_ hO_ hD
    refine s_gen (V := wideV A) [.pointer (some ⟨w.heap.size, 0, none⟩)] (by kernel_rfl) (by kernel_rfl) (by kernel_rfl) ?_
    intro r_ hr_
    have o0_ : r_ (.tmp 2) = .pointer (some ⟨w.heap.size, 0, none⟩) := op_at hr_ 0 (by kernel_rfl) (by kernel_rfl)
    clear hr_
    go_simp; first | done | with_reducible rfl
  simp only [Act.put, planVG, List.setIfInBounds_toArray, List.set_cons_zero, List.set_cons_succ, List.getElem?_cons_zero, List.getElem?_cons_succ]
  refine ⟨?_, ?_⟩
  · as_aux_lemma =>
    intro y_ hS_ hO_ hD
    clear hS_ hO_ hD
    refine s_gen (V := .int .i64 (n)) [.int .i64 (n)] (by kernel_rfl) (by kernel_rfl) (by kernel_rfl) ?_
    intro r_ hr_
    have o0_ : r_ (.tmp 1) = .int .i64 (n) := op_at hr_ 0 (by kernel_rfl) (by kernel_rfl)
    clear hr_
    go_simp; first | done | with_reducible rfl | omega
  simp only [Act.put, planVG, List.setIfInBounds_toArray, List.set_cons_zero, List.set_cons_succ, List.getElem?_cons_zero, List.getElem?_cons_succ]
  refine ⟨?_, ?_⟩
  · as_aux_lemma =>
    intro y_ hS_ hO_ hD
    try clear hS
    clear hS_ hO_ hD
    refine s_gcall (V := wideV X) [.func (.func 22) #[] #[], wideV A, .int .i64 (n)] ?_ ?_ (by kernel_rfl) (by kernel_rfl) (by kernel_rfl) ?_ ?_
    rotate_left 2
    · intro r_ hr_
      have o0_ : r_ (.func 22) = .func (.func 22) #[] #[] := op_at hr_ 0 (by kernel_rfl) (by kernel_rfl)
      have o1_ : r_ (.tmp 9) = wideV A := op_at hr_ 1 (by kernel_rfl) (by kernel_rfl)
      have o2_ : r_ (.tmp 10) = .int .i64 (n) := op_at hr_ 2 (by kernel_rfl) (by kernel_rfl)
      clear hr_
      go_simp; first | done | with_reducible rfl | (constructor <;> with_reducible rfl)
    · refine calls_to (V := wideV X) (WideRight_at (IsWide.of hA) n (by omega) (by omega) _) (by rw [HX.out])
  simp only [Act.put, planVG, List.setIfInBounds_toArray, List.set_cons_zero, List.set_cons_succ, List.getElem?_cons_zero, List.getElem?_cons_succ]
  refine ⟨?_, ?_⟩
  · as_aux_lemma =>
    intro y_ hS_ hO_ hD
    have Q := ((hS_ (by rfl)).2.2).cell
    have q0 := Q 0 _ rfl
    have q1 := Q 1 _ rfl
    have q2 := Q 2 _ rfl
    have q3 := Q 3 _ rfl
    clear Q hS_ hO_ hD
    refine s_gen (V := wideV A) [.pointer (some ⟨w.heap.size, 0, none⟩)] (by kernel_rfl) (by kernel_rfl) (by kernel_rfl) ?_
    intro r_ hr_
    have o0_ : r_ (.tmp 2) = .pointer (some ⟨w.heap.size, 0, none⟩) := op_at hr_ 0 (by kernel_rfl) (by kernel_rfl)
    clear hr_
    go_simp; first | done | with_reducible rfl
  simp only [Act.put, planVG, List.setIfInBounds_toArray, List.set_cons_zero, List.set_cons_succ, List.getElem?_cons_zero, List.getElem?_cons_succ]
  refine ⟨?_, ?_⟩
  · as_aux_lemma =>
    intro y_ hS_ hO_ hD
    clear hS_ hO_ hD
    refine s_gen (V := .int .i64 (n)) [.int .i64 (n)] (by kernel_rfl) (by kernel_rfl) (by kernel_rfl) ?_
    intro r_ hr_
    have o0_ : r_ (.tmp 1) = .int .i64 (n) := op_at hr_ 0 (by kernel_rfl) (by kernel_rfl)
    clear hr_
    go_simp; first | done | with_reducible rfl | omega
  simp only [Act.put, planVG, List.setIfInBounds_toArray, List.set_cons_zero, List.set_cons_succ, List.getElem?_cons_zero, List.getElem?_cons_succ]
  refine ⟨?_, ?_⟩
  · as_aux_lemma =>
    intro y_ hS_ hO_ hD
    try clear hS
    clear hS_ hO_ hD
    refine s_gcall (V := wideV X) [.func (.func 23) #[] #[], wideV A, .int .i64 (n)] ?_ ?_ (by kernel_rfl) (by kernel_rfl) (by kernel_rfl) ?_ ?_
    rotate_left 2
    · intro r_ hr_
      have o0_ : r_ (.func 23) = .func (.func 23) #[] #[] := op_at hr_ 0 (by kernel_rfl) (by kernel_rfl)
      have o1_ : r_ (.tmp 12) = wideV A := op_at hr_ 1 (by kernel_rfl) (by kernel_rfl)
      have o2_ : r_ (.tmp 13) = .int .i64 (n) := op_at hr_ 2 (by kernel_rfl) (by kernel_rfl)
      clear hr_
      go_simp; first | done | with_reducible rfl | (constructor <;> with_reducible rfl)
    · refine calls_to (V := wideV X) (WideJam_at (IsWide.of hA) n (by omega) (by omega) _) (by rw [HY.out])
  simp only [Act.put, planVG, List.setIfInBounds_toArray, List.set_cons_zero, List.set_cons_succ, List.getElem?_cons_zero, List.getElem?_cons_succ]
  refine ⟨?_, ?_⟩
  · as_aux_lemma =>
    intro y_ hS_ hO_ hD
    clear hS_ hO_ hD
    refine s_alloc (by rfl) (by rfl) ?_
    simp only [allocTy]
    go_simp; first | done | with_reducible rfl | rfl
  simp only [Act.put, planVG, List.setIfInBounds_toArray, List.set_cons_zero, List.set_cons_succ, List.getElem?_cons_zero, List.getElem?_cons_succ]
  refine ⟨?_, ?_⟩
  · as_aux_lemma =>
    intro y_ hS_ hO_ hD
    clear hS_ hO_ hD
    refine s_alloc (by rfl) (by rfl) ?_
    simp only [allocTy]
    go_simp; first | done | with_reducible rfl | rfl
  simp only [Act.put, planVG, List.setIfInBounds_toArray, List.set_cons_zero, List.set_cons_succ, List.getElem?_cons_zero, List.getElem?_cons_succ]
  refine ⟨?_, ?_⟩
  · as_aux_lemma =>
    intro y_ hS_ hO_ hD
    have hS := hS_ (by rfl)
    clear hS hS_ hO_ hD
    refine s_gput (j := 6) (Z := #[.int .u64 0, .int .u64 0, .int .u64 0, .int .u64 0]) (V := [.int .u64 (limb 0 X), .int .u64 (limb 1 X), .int .u64 (limb 2 X), .int .u64 (limb 3 X)]) [ρ 6, wideV X] (by kernel_rfl) (by kernel_rfl) (by kernel_rfl) (by kernel_rfl) ?_
    intro r_ b hr_ hb hB F
    have o0_ : r_ (.tmp 5) = ρ 6 := op_at hr_ 0 (by kernel_rfl) (by kernel_rfl)
    have o1_ : r_ (.tmp 11) = wideV X := op_at hr_ 1 (by kernel_rfl) (by kernel_rfl)
    clear hr_
    rw [hb] at o0_
    have Q := F.cell
    have q0 := Q 0 _ rfl
    have q1 := Q 1 _ rfl
    have q2 := Q 2 _ rfl
    have q3 := Q 3 _ rfl
    have Qf := F.free
    have Ql := F.lt
    clear Q F
    simp only [putCells]
    go_simp; first | done | with_reducible rfl | rfl
  simp only [Act.put, planVG, List.setIfInBounds_toArray, List.set_cons_zero, List.set_cons_succ, List.getElem?_cons_zero, List.getElem?_cons_succ]
  refine ⟨?_, ?_⟩
  · as_aux_lemma =>
    intro y_ hS_ hO_ hD
    have hS := hS_ (by rfl)
    clear hS hS_ hO_ hD
    refine s_gput (j := 7) (Z := #[.int .u64 0, .int .u64 0, .int .u64 0, .int .u64 0]) (V := [.int .u64 (limb 0 X), .int .u64 (limb 1 X), .int .u64 (limb 2 X), .int .u64 (limb 3 X)]) [ρ 7, wideV X] (by kernel_rfl) (by kernel_rfl) (by kernel_rfl) (by kernel_rfl) ?_
    intro r_ b hr_ hb hB F
    have o0_ : r_ (.tmp 6) = ρ 7 := op_at hr_ 0 (by kernel_rfl) (by kernel_rfl)
    have o1_ : r_ (.tmp 14) = wideV X := op_at hr_ 1 (by kernel_rfl) (by kernel_rfl)
    clear hr_
    rw [hb] at o0_
    have Q := F.cell
    have q0 := Q 0 _ rfl
    have q1 := Q 1 _ rfl
    have q2 := Q 2 _ rfl
    have q3 := Q 3 _ rfl
    have Qf := F.free
    have Ql := F.lt
    clear Q F
    simp only [putCells]
    go_simp; first | done | with_reducible rfl | rfl
  simp only [Act.put, planVG, List.setIfInBounds_toArray, List.set_cons_zero, List.set_cons_succ, List.getElem?_cons_zero, List.getElem?_cons_succ]
  as_aux_lemma =>
    intro w1 hS hF hD_
    change wpList _ _ _ _ _ _
    replace hS := sg_no (by decide) hS
    obtain ⟨hk, hZ1, X1⟩ := hS
    obtain ⟨v1_6, e_v1_6, hv1_6, Bv1_6⟩ : ∃ b, ρ 6 = .pointer (some ⟨b, 0, none⟩) ∧ w.heap.size + 1 ≤ b ∧ Box w1 b #[.int .u64 (limb 0 X), .int .u64 (limb 1 X), .int .u64 (limb 2 X), .int .u64 (limb 3 X)] := by
      obtain ⟨b, h1, h2, h3⟩ := hF 6 (by decide)
      exact ⟨b, h1, h2, h3.lt, h3.cell, h3.free⟩
    obtain ⟨v1_7, e_v1_7, hv1_7, Bv1_7⟩ : ∃ b, ρ 7 = .pointer (some ⟨b, 0, none⟩) ∧ w.heap.size + 1 ≤ b ∧ Box w1 b #[.int .u64 (limb 0 X), .int .u64 (limb 1 X), .int .u64 (limb 2 X), .int .u64 (limb 3 X)] := by
      obtain ⟨b, h1, h2, h3⟩ := hF 7 (by decide)
      exact ⟨b, h1, h2, h3.lt, h3.cell, h3.free⟩
    have nv1_6_v1_7 : ¬ v1_6 = v1_7 := fun h => hD_ 6 7 (by decide) (by decide) (by decide) (by rfl) (by rfl) (by rw [e_v1_6, e_v1_7, h])
    have nv1_7_v1_6 : ¬ v1_7 = v1_6 := fun h => nv1_6_v1_7 h.symm
    clear hF hD_
    simp only [e_v1_6]
    clear e_v1_6
    simp only [e_v1_7]
    clear e_v1_7
    clear ρ
    have hz_w1 := hk.size
    have X1l := X1.lt
    have X1f := X1.free
    have X1l1 : w.heap.size < w1.heap.size + 1 := by omega
    have X1l2 : w.heap.size < w1.heap.size + 1 + 1 := by omega
    have X1l3 : w.heap.size < w1.heap.size + 1 + 1 + 1 := by omega
    have X10 := X1.cell 0 _ rfl
    have X11 := X1.cell 1 _ rfl
    have X12 := X1.cell 2 _ rfl
    have X13 := X1.cell 3 _ rfl
    have Bv1_6l := Bv1_6.lt
    have Bv1_6f := Bv1_6.free
    have Bv1_6l1 : v1_6 < w1.heap.size + 1 := by omega
    have Bv1_6l2 : v1_6 < w1.heap.size + 1 + 1 := by omega
    have Bv1_6l3 : v1_6 < w1.heap.size + 1 + 1 + 1 := by omega
    have Bv1_60 := Bv1_6.cell 0 _ rfl
    have Bv1_61 := Bv1_6.cell 1 _ rfl
    have Bv1_62 := Bv1_6.cell 2 _ rfl
    have Bv1_63 := Bv1_6.cell 3 _ rfl
    have Bv1_7l := Bv1_7.lt
    have Bv1_7f := Bv1_7.free
    have Bv1_7l1 : v1_7 < w1.heap.size + 1 := by omega
    have Bv1_7l2 : v1_7 < w1.heap.size + 1 + 1 := by omega
    have Bv1_7l3 : v1_7 < w1.heap.size + 1 + 1 + 1 := by omega
    have Bv1_70 := Bv1_7.cell 0 _ rfl
    have Bv1_71 := Bv1_7.cell 1 _ rfl
    have Bv1_72 := Bv1_7.cell 2 _ rfl
    have Bv1_73 := Bv1_7.cell 3 _ rfl
    go_wp2_with fail
    (with_reducible refine (calls_to (V := .tuple #[.agg #[.int .u64 0, .int .u64 0, .int .u64 0, .int .u64 0], .bool false]) (SubW_at (IsWide.of hX) (IsWide.of hX) _) (by rw [HD.out, HB.out])).mono ?_)
    rintro e w2 ⟨rfl, hb⟩
    have X1' : Box w2 (w.heap.size) #[.int .u64 (limb 0 A), .int .u64 (limb 1 A), .int .u64 (limb 2 A), .int .u64 (limb 3 A)] := Box.call hb (by repeat (first | with_reducible assumption | with_reducible apply Box.set10 | with_reducible apply Box.set20 | with_reducible apply Box.set21 | with_reducible apply Box.set40 | with_reducible apply Box.set41 | with_reducible apply Box.set42 | with_reducible apply Box.set43 | with_reducible apply Box.set50 | with_reducible apply Box.set51 | with_reducible apply Box.set52 | with_reducible apply Box.set53 | with_reducible apply Box.set54 | with_reducible apply Box.drew | (with_reducible apply Box.newAt; (try simp only [World.size_alloc, World.size_setCell, World.size_drew]); done) | with_reducible apply Box.alloc | (with_reducible apply Box.other; case hne => ((try simp only [World.size_alloc, World.size_setCell, World.size_drew]); omega))))
    have Bv1_6' : Box w2 (v1_6) #[.int .u64 (limb 0 X), .int .u64 (limb 1 X), .int .u64 (limb 2 X), .int .u64 (limb 3 X)] := Box.call hb (by repeat (first | with_reducible assumption | with_reducible apply Box.set10 | with_reducible apply Box.set20 | with_reducible apply Box.set21 | with_reducible apply Box.set40 | with_reducible apply Box.set41 | with_reducible apply Box.set42 | with_reducible apply Box.set43 | with_reducible apply Box.set50 | with_reducible apply Box.set51 | with_reducible apply Box.set52 | with_reducible apply Box.set53 | with_reducible apply Box.set54 | with_reducible apply Box.drew | (with_reducible apply Box.newAt; (try simp only [World.size_alloc, World.size_setCell, World.size_drew]); done) | with_reducible apply Box.alloc | (with_reducible apply Box.other; case hne => ((try simp only [World.size_alloc, World.size_setCell, World.size_drew]); omega))))
    have Bv1_7' : Box w2 (v1_7) #[.int .u64 (limb 0 X), .int .u64 (limb 1 X), .int .u64 (limb 2 X), .int .u64 (limb 3 X)] := Box.call hb (by repeat (first | with_reducible assumption | with_reducible apply Box.set10 | with_reducible apply Box.set20 | with_reducible apply Box.set21 | with_reducible apply Box.set40 | with_reducible apply Box.set41 | with_reducible apply Box.set42 | with_reducible apply Box.set43 | with_reducible apply Box.set50 | with_reducible apply Box.set51 | with_reducible apply Box.set52 | with_reducible apply Box.set53 | with_reducible apply Box.set54 | with_reducible apply Box.drew | (with_reducible apply Box.newAt; (try simp only [World.size_alloc, World.size_setCell, World.size_drew]); done) | with_reducible apply Box.alloc | (with_reducible apply Box.other; case hne => ((try simp only [World.size_alloc, World.size_setCell, World.size_drew]); omega))))
    have hk' : Kept w.heap.size w w2 := Kept.step (by repeat (first | with_reducible exact hk | with_reducible exact Kept.refl _ | with_reducible refine Kept.alloc ?_ _ | with_reducible refine Kept.drew ?_ | with_reducible refine Kept.setCell ?_ (by simp only [World.size_alloc, World.size_setCell, World.size_drew]; omega) _)) hb
    clear hk hb
    clear X1 X1l1 X1l2 X1l3 X1f X10 X11 X12 X13
    clear Bv1_6 Bv1_6l1 Bv1_6l2 Bv1_6l3 Bv1_6f Bv1_60 Bv1_61 Bv1_62 Bv1_63
    clear Bv1_7 Bv1_7l1 Bv1_7l2 Bv1_7l3 Bv1_7f Bv1_70 Bv1_71 Bv1_72 Bv1_73
    have X1 := X1'
    clear X1'
    have Bv1_6 := Bv1_6'
    clear Bv1_6'
    have Bv1_7 := Bv1_7'
    clear Bv1_7'
    have hk := hk'
    clear hk'
    have hz_w2 := hk.size
    have X1l := X1.lt
    have X1f := X1.free
    have X1l1 : w.heap.size < w2.heap.size + 1 := by omega
    have X1l2 : w.heap.size < w2.heap.size + 1 + 1 := by omega
    have X1l3 : w.heap.size < w2.heap.size + 1 + 1 + 1 := by omega
    have X10 := X1.cell 0 _ rfl
    have X11 := X1.cell 1 _ rfl
    have X12 := X1.cell 2 _ rfl
    have X13 := X1.cell 3 _ rfl
    have Bv1_6l := Bv1_6.lt
    have Bv1_6f := Bv1_6.free
    have Bv1_6l1 : v1_6 < w2.heap.size + 1 := by omega
    have Bv1_6l2 : v1_6 < w2.heap.size + 1 + 1 := by omega
    have Bv1_6l3 : v1_6 < w2.heap.size + 1 + 1 + 1 := by omega
    have Bv1_60 := Bv1_6.cell 0 _ rfl
    have Bv1_61 := Bv1_6.cell 1 _ rfl
    have Bv1_62 := Bv1_6.cell 2 _ rfl
    have Bv1_63 := Bv1_6.cell 3 _ rfl
    have Bv1_7l := Bv1_7.lt
    have Bv1_7f := Bv1_7.free
    have Bv1_7l1 : v1_7 < w2.heap.size + 1 := by omega
    have Bv1_7l2 : v1_7 < w2.heap.size + 1 + 1 := by omega
    have Bv1_7l3 : v1_7 < w2.heap.size + 1 + 1 + 1 := by omega
    have Bv1_70 := Bv1_7.cell 0 _ rfl
    have Bv1_71 := Bv1_7.cell 1 _ rfl
    have Bv1_72 := Bv1_7.cell 2 _ rfl
    have Bv1_73 := Bv1_7.cell 3 _ rfl
    go_upto_region 3 with fail
    refine wp_region_p 33 (fun W' => Kept w.heap.size w W' ∧ w2.heap.size + 1 ≤ W'.heap.size ∧ Box W' (w.heap.size) #[.int .u64 (limb 0 A), .int .u64 (limb 1 A), .int .u64 (limb 2 A), .int .u64 (limb 3 A)] ∧ Box W' (v1_6) #[.int .u64 (limb 0 X), .int .u64 (limb 1 X), .int .u64 (limb 2 X), .int .u64 (limb 3 X)] ∧ Box W' (v1_7) #[.int .u64 (limb 0 X), .int .u64 (limb 1 X), .int .u64 (limb 2 X), .int .u64 (limb 3 X)] ∧ Box W' (w2.heap.size) #[.int .u64 0, .int .u64 0, .int .u64 0, .int .u64 0]) (fun W' => Kept w.heap.size w W' ∧ w2.heap.size + 1 ≤ W'.heap.size ∧ Box W' (w.heap.size) #[.int .u64 (limb 0 A), .int .u64 (limb 1 A), .int .u64 (limb 2 A), .int .u64 (limb 3 A)] ∧ Box W' (v1_6) #[.int .u64 (limb 0 X), .int .u64 (limb 1 X), .int .u64 (limb 2 X), .int .u64 (limb 3 X)] ∧ Box W' (v1_7) #[.int .u64 (limb 0 X), .int .u64 (limb 1 X), .int .u64 (limb 2 X), .int .u64 (limb 3 X)] ∧ Box W' (w2.heap.size) #[.int .u64 0, .int .u64 0, .int .u64 0, .int .u64 0]) 1000 (w2.heap.size + 1) [.known (.bool false), .known (.bool false), .known (.agg #[.int .u64 0, .int .u64 0, .int .u64 0, .int .u64 0]), .known (.agg #[.int .u64 0, .int .u64 0, .int .u64 0, .int .u64 0]), .known (.bool false), .known (.bool false), .known undef, .known undef, .known undef, .known (.bool false), .known (.bool false), .known (.bool false), .known (wideV A), .known (.int .i64 (n)), .known (.bool false), .known (.bool false), .known undef, .known undef, .known undef, .known undef, .known (.bool false), .known (.bool false), .known (.bool false), .known (wideV A), .known (.int .i64 (n)), .known (.bool false), .known (.bool true), .known (.bool true), .known (wideV X), .known (wideV X), .known (.bool false), .known (.bool false), .known (.bool false)] (by kernel_rfl) (by kernel_rfl) (fun W W' h hb => ⟨h.1.step hb, Nat.le_trans (h.2.1) hb.size, Box.call hb (h.2.2.1), Box.call hb (h.2.2.2.1), Box.call hb (h.2.2.2.2.1), Box.call hb (h.2.2.2.2.2)⟩) (fun W W' h hb => ⟨h.1.step hb, Nat.le_trans (h.2.1) hb.size, Box.call hb (h.2.2.1), Box.call hb (h.2.2.2.1), Box.call hb (h.2.2.2.2.1), Box.call hb (h.2.2.2.2.2)⟩) (no_out (of_decide_eq_true (by kernel_rfl))) (.inl (by kernel_rfl)) (.inl (by kernel_rfl)) (fun _ h => h.2.1) (fun _ h => h.2.1) (⟨(by repeat (first | with_reducible exact hk | with_reducible exact Kept.refl _ | with_reducible refine Kept.alloc ?_ _ | with_reducible refine Kept.drew ?_ | with_reducible refine Kept.setCell ?_ (by simp only [World.size_alloc, World.size_setCell, World.size_drew]; omega) _)), (by (try simp only [World.size_alloc, World.size_setCell, World.size_drew]); omega), (by repeat (first | with_reducible assumption | with_reducible apply Box.set10 | with_reducible apply Box.set20 | with_reducible apply Box.set21 | with_reducible apply Box.set40 | with_reducible apply Box.set41 | with_reducible apply Box.set42 | with_reducible apply Box.set43 | with_reducible apply Box.set50 | with_reducible apply Box.set51 | with_reducible apply Box.set52 | with_reducible apply Box.set53 | with_reducible apply Box.set54 | with_reducible apply Box.drew | (with_reducible apply Box.newAt; (try simp only [World.size_alloc, World.size_setCell, World.size_drew]); done) | with_reducible apply Box.alloc | (with_reducible apply Box.other; case hne => ((try simp only [World.size_alloc, World.size_setCell, World.size_drew]); omega)))), (by repeat (first | with_reducible assumption | with_reducible apply Box.set10 | with_reducible apply Box.set20 | with_reducible apply Box.set21 | with_reducible apply Box.set40 | with_reducible apply Box.set41 | with_reducible apply Box.set42 | with_reducible apply Box.set43 | with_reducible apply Box.set50 | with_reducible apply Box.set51 | with_reducible apply Box.set52 | with_reducible apply Box.set53 | with_reducible apply Box.set54 | with_reducible apply Box.drew | (with_reducible apply Box.newAt; (try simp only [World.size_alloc, World.size_setCell, World.size_drew]); done) | with_reducible apply Box.alloc | (with_reducible apply Box.other; case hne => ((try simp only [World.size_alloc, World.size_setCell, World.size_drew]); omega)))), (by repeat (first | with_reducible assumption | with_reducible apply Box.set10 | with_reducible apply Box.set20 | with_reducible apply Box.set21 | with_reducible apply Box.set40 | with_reducible apply Box.set41 | with_reducible apply Box.set42 | with_reducible apply Box.set43 | with_reducible apply Box.set50 | with_reducible apply Box.set51 | with_reducible apply Box.set52 | with_reducible apply Box.set53 | with_reducible apply Box.set54 | with_reducible apply Box.drew | (with_reducible apply Box.newAt; (try simp only [World.size_alloc, World.size_setCell, World.size_drew]); done) | with_reducible apply Box.alloc | (with_reducible apply Box.other; case hne => ((try simp only [World.size_alloc, World.size_setCell, World.size_drew]); omega)))), (by repeat (first | with_reducible assumption | with_reducible apply Box.set10 | with_reducible apply Box.set20 | with_reducible apply Box.set21 | with_reducible apply Box.set40 | with_reducible apply Box.set41 | with_reducible apply Box.set42 | with_reducible apply Box.set43 | with_reducible apply Box.set50 | with_reducible apply Box.set51 | with_reducible apply Box.set52 | with_reducible apply Box.set53 | with_reducible apply Box.set54 | with_reducible apply Box.drew | (with_reducible apply Box.newAt; (try simp only [World.size_alloc, World.size_setCell, World.size_drew]); done) | with_reducible apply Box.alloc | (with_reducible apply Box.other; case hne => ((try simp only [World.size_alloc, World.size_setCell, World.size_drew]); omega))))⟩) ?_
    clear hk
    clear X1 X1l1 X1l2 X1l3 X1f X10 X11 X12 X13
    clear Bv1_6 Bv1_6l1 Bv1_6l2 Bv1_6l3 Bv1_6f Bv1_60 Bv1_61 Bv1_62 Bv1_63
    clear Bv1_7 Bv1_7l1 Bv1_7l2 Bv1_7l3 Bv1_7f Bv1_70 Bv1_71 Bv1_72 Bv1_73
    intro ρ
    simp only [List.take_succ_cons, List.take_zero, List.drop_succ_cons, List.drop_zero]
    refine ⟨?_, ?_⟩
    · as_aux_lemma =>
      intro y_ hS_ hO_ hD
      clear hS_ hO_ hD
      refine s_gen (V := .bool false) [.bool false] (by kernel_rfl) (by kernel_rfl) (by kernel_rfl) ?_
      intro r_ hr_
      have o0_ : r_ (.tmp 8) = .bool false := op_at hr_ 0 (by kernel_rfl) (by kernel_rfl)
      clear hr_
      go_simp; first | done | with_reducible rfl | omega
    simp only [Act.put, planVG, List.setIfInBounds_toArray, List.set_cons_zero, List.set_cons_succ, List.getElem?_cons_zero, List.getElem?_cons_succ]
    refine ⟨?_, ?_⟩
    · as_aux_lemma =>
      intro y_ hS_ hO_ hD
      clear hS_ hO_ hD
      refine s_gen (V := .bool false) [.bool false] (by kernel_rfl) (by kernel_rfl) (by kernel_rfl) ?_
      intro r_ hr_
      have o0_ : r_ (.tmp 21) = .bool false := op_at hr_ 0 (by kernel_rfl) (by kernel_rfl)
      clear hr_
      go_simp; first | done | with_reducible rfl | omega
    simp only [Act.put, planVG, List.setIfInBounds_toArray, List.set_cons_zero, List.set_cons_succ, List.getElem?_cons_zero, List.getElem?_cons_succ]
    refine ⟨?_, ?_⟩
    · as_aux_lemma =>
      intro y_ hS_ hO_ hD
      have Q := ((hS_ (by rfl)).2.2.2.2.2).cell
      have q0 := Q 0 _ rfl
      have q1 := Q 1 _ rfl
      have q2 := Q 2 _ rfl
      have q3 := Q 3 _ rfl
      clear Q hS_ hO_ hD
      refine s_gen (V := .agg #[.int .u64 0, .int .u64 0, .int .u64 0, .int .u64 0]) [.pointer (some ⟨w2.heap.size, 0, none⟩)] (by kernel_rfl) (by kernel_rfl) (by kernel_rfl) ?_
      intro r_ hr_
      have o0_ : r_ (.tmp 7) = .pointer (some ⟨w2.heap.size, 0, none⟩) := op_at hr_ 0 (by kernel_rfl) (by kernel_rfl)
      clear hr_
      go_simp; first | done | with_reducible rfl
    simp only [Act.put, planVG, List.setIfInBounds_toArray, List.set_cons_zero, List.set_cons_succ, List.getElem?_cons_zero, List.getElem?_cons_succ]
    refine ⟨?_, ?_⟩
    · as_aux_lemma =>
      intro y_ hS_ hO_ hD
      clear hS_ hO_ hD
      refine s_gen (V := .agg #[.int .u64 0, .int .u64 0, .int .u64 0, .int .u64 0]) [] (by kernel_rfl) (by kernel_rfl) (by kernel_rfl) ?_
      intro r_ hr_
      
      clear hr_
      go_simp; first | done | with_reducible rfl | omega
    simp only [Act.put, planVG, List.setIfInBounds_toArray, List.set_cons_zero, List.set_cons_succ, List.getElem?_cons_zero, List.getElem?_cons_succ]
    refine ⟨?_, ?_⟩
    · as_aux_lemma =>
      intro y_ hS_ hO_ hD
      clear hS_ hO_ hD
      refine s_gen (V := .bool false) [.agg #[.int .u64 0, .int .u64 0, .int .u64 0, .int .u64 0], .agg #[.int .u64 0, .int .u64 0, .int .u64 0, .int .u64 0]] (by kernel_rfl) (by kernel_rfl) (by kernel_rfl) ?_
      intro r_ hr_
      have o0_ : r_ (.tmp 23) = .agg #[.int .u64 0, .int .u64 0, .int .u64 0, .int .u64 0] := op_at hr_ 0 (by kernel_rfl) (by kernel_rfl)
      have o1_ : r_ (.tmp 24) = .agg #[.int .u64 0, .int .u64 0, .int .u64 0, .int .u64 0] := op_at hr_ 1 (by kernel_rfl) (by kernel_rfl)
      clear hr_
      go_simp; first | done | with_reducible rfl | omega
    simp only [Act.put, planVG, List.setIfInBounds_toArray, List.set_cons_zero, List.set_cons_succ, List.getElem?_cons_zero, List.getElem?_cons_succ]
    refine ⟨?_, ?_⟩
    · as_aux_lemma =>
      intro y_ hS_ hO_ hD
      clear hS_ hO_ hD
      refine s_gen (V := .bool false) [.bool false] (by kernel_rfl) (by kernel_rfl) (by kernel_rfl) ?_
      intro r_ hr_
      have o0_ : r_ (.tmp 25) = .bool false := op_at hr_ 0 (by kernel_rfl) (by kernel_rfl)
      clear hr_
      go_simp; first | done | with_reducible rfl | omega
    simp only [Act.put, planVG, List.setIfInBounds_toArray, List.set_cons_zero, List.set_cons_succ, List.getElem?_cons_zero, List.getElem?_cons_succ]
    refine ⟨?_, ?_⟩
    · as_aux_lemma =>
      intro y_ hS_ hO_ hD
      exact s_skip (by rfl) (by rfl)
    simp only [Act.put, planVG, List.setIfInBounds_toArray, List.set_cons_zero, List.set_cons_succ, List.getElem?_cons_zero, List.getElem?_cons_succ]
    refine ⟨?_, ?_⟩
    · as_aux_lemma =>
      intro y_ hS_ hO_ hD
      exact s_skip (by rfl) (by rfl)
    simp only [Act.put, planVG, List.setIfInBounds_toArray, List.set_cons_zero, List.set_cons_succ, List.getElem?_cons_zero, List.getElem?_cons_succ]
    refine ⟨?_, ?_⟩
    · as_aux_lemma =>
      intro y_ hS_ hO_ hD
      exact s_skip (by rfl) (by rfl)
    simp only [Act.put, planVG, List.setIfInBounds_toArray, List.set_cons_zero, List.set_cons_succ, List.getElem?_cons_zero, List.getElem?_cons_succ]
    refine ⟨?_, ?_⟩
    · as_aux_lemma =>
      intro y_ hS_ hO_ hD
      clear hS_ hO_ hD
      refine s_gen (V := .bool false) [.bool false, undef, .bool false] (by kernel_rfl) (by kernel_rfl) (by kernel_rfl) ?_
      intro r_ hr_
      have o0_ : r_ (.tmp 26) = .bool false := op_at hr_ 0 (by kernel_rfl) (by kernel_rfl)
      have o1_ : r_ (.tmp 29) = undef := op_at hr_ 1 (by kernel_rfl) (by kernel_rfl)
      have o2_ : r_ (.const (.bool false)) = .bool false := op_at hr_ 2 (by kernel_rfl) (by kernel_rfl)
      clear hr_
      go_simp; first | done | with_reducible rfl | omega
    simp only [Act.put, planVG, List.setIfInBounds_toArray, List.set_cons_zero, List.set_cons_succ, List.getElem?_cons_zero, List.getElem?_cons_succ]
    refine ⟨?_, ?_⟩
    · as_aux_lemma =>
      intro y_ hS_ hO_ hD
      clear hS_ hO_ hD
      refine s_gen (V := .bool false) [.bool false, .bool true, .bool false] (by kernel_rfl) (by kernel_rfl) (by kernel_rfl) ?_
      intro r_ hr_
      have o0_ : r_ (.tmp 22) = .bool false := op_at hr_ 0 (by kernel_rfl) (by kernel_rfl)
      have o1_ : r_ (.const (.bool true)) = .bool true := op_at hr_ 1 (by kernel_rfl) (by kernel_rfl)
      have o2_ : r_ (.tmp 30) = .bool false := op_at hr_ 2 (by kernel_rfl) (by kernel_rfl)
      clear hr_
      go_simp; first | done | with_reducible rfl | omega
    simp only [Act.put, planVG, List.setIfInBounds_toArray, List.set_cons_zero, List.set_cons_succ, List.getElem?_cons_zero, List.getElem?_cons_succ]
    refine ⟨?_, ?_⟩
    · as_aux_lemma =>
      intro y_ hS_ hO_ hD
      clear hS_ hO_ hD
      refine s_gen (V := .bool false) [.bool false] (by kernel_rfl) (by kernel_rfl) (by kernel_rfl) ?_
      intro r_ hr_
      have o0_ : r_ (.tmp 31) = .bool false := op_at hr_ 0 (by kernel_rfl) (by kernel_rfl)
      clear hr_
      go_simp; first | done | with_reducible rfl | omega
    simp only [Act.put, planVG, List.setIfInBounds_toArray, List.set_cons_zero, List.set_cons_succ, List.getElem?_cons_zero, List.getElem?_cons_succ]
    refine ⟨?_, ?_⟩
    · as_aux_lemma =>
      intro y_ hS_ hO_ hD
      have Q := ((hS_ (by rfl)).2.2.1).cell
      have q0 := Q 0 _ rfl
      have q1 := Q 1 _ rfl
      have q2 := Q 2 _ rfl
      have q3 := Q 3 _ rfl
      clear Q hS_ hO_ hD
      refine s_gen (V := wideV A) [.pointer (some ⟨w.heap.size, 0, none⟩)] (by kernel_rfl) (by kernel_rfl) (by kernel_rfl) ?_
      intro r_ hr_
      have o0_ : r_ (.tmp 2) = .pointer (some ⟨w.heap.size, 0, none⟩) := op_at hr_ 0 (by kernel_rfl) (by kernel_rfl)
      clear hr_
      go_simp; first | done | with_reducible rfl
    simp only [Act.put, planVG, List.setIfInBounds_toArray, List.set_cons_zero, List.set_cons_succ, List.getElem?_cons_zero, List.getElem?_cons_succ]
    refine ⟨?_, ?_⟩
    · as_aux_lemma =>
      intro y_ hS_ hO_ hD
      clear hS_ hO_ hD
      refine s_gen (V := .int .i64 (n)) [.int .i64 (n)] (by kernel_rfl) (by kernel_rfl) (by kernel_rfl) ?_
      intro r_ hr_
      have o0_ : r_ (.tmp 1) = .int .i64 (n) := op_at hr_ 0 (by kernel_rfl) (by kernel_rfl)
      clear hr_
      go_simp; first | done | with_reducible rfl | omega
    simp only [Act.put, planVG, List.setIfInBounds_toArray, List.set_cons_zero, List.set_cons_succ, List.getElem?_cons_zero, List.getElem?_cons_succ]
    refine ⟨?_, ?_⟩
    · as_aux_lemma =>
      intro y_ hS_ hO_ hD
      try clear hS
      clear hS_ hO_ hD
      refine s_gcall (V := .bool false) [.func (.func 24) #[] #[], wideV A, .int .i64 (n)] ?_ ?_ (by kernel_rfl) (by kernel_rfl) (by kernel_rfl) ?_ ?_
      rotate_left 2
      · intro r_ hr_
        have o0_ : r_ (.func 24) = .func (.func 24) #[] #[] := op_at hr_ 0 (by kernel_rfl) (by kernel_rfl)
        have o1_ : r_ (.tmp 33) = wideV A := op_at hr_ 1 (by kernel_rfl) (by kernel_rfl)
        have o2_ : r_ (.tmp 34) = .int .i64 (n) := op_at hr_ 2 (by kernel_rfl) (by kernel_rfl)
        clear hr_
        go_simp; first | done | with_reducible rfl | (constructor <;> with_reducible rfl)
      · refine calls_to (V := .bool false) (Lost_at (IsWide.of hA) n (by omega) (by omega) _) (by rw [HL.out])
    simp only [Act.put, planVG, List.setIfInBounds_toArray, List.set_cons_zero, List.set_cons_succ, List.getElem?_cons_zero, List.getElem?_cons_succ]
    refine ⟨?_, ?_⟩
    · as_aux_lemma =>
      intro y_ hS_ hO_ hD
      clear hS_ hO_ hD
      refine s_gen (V := .bool false) [.bool false] (by kernel_rfl) (by kernel_rfl) (by kernel_rfl) ?_
      intro r_ hr_
      have o0_ : r_ (.tmp 35) = .bool false := op_at hr_ 0 (by kernel_rfl) (by kernel_rfl)
      clear hr_
      go_simp; first | done | with_reducible rfl | omega
    simp only [Act.put, planVG, List.setIfInBounds_toArray, List.set_cons_zero, List.set_cons_succ, List.getElem?_cons_zero, List.getElem?_cons_succ]
    refine ⟨?_, ?_⟩
    · as_aux_lemma =>
      intro y_ hS_ hO_ hD
      exact s_skip (by rfl) (by rfl)
    simp only [Act.put, planVG, List.setIfInBounds_toArray, List.set_cons_zero, List.set_cons_succ, List.getElem?_cons_zero, List.getElem?_cons_succ]
    refine ⟨?_, ?_⟩
    · as_aux_lemma =>
      intro y_ hS_ hO_ hD
      exact s_skip (by rfl) (by rfl)
    simp only [Act.put, planVG, List.setIfInBounds_toArray, List.set_cons_zero, List.set_cons_succ, List.getElem?_cons_zero, List.getElem?_cons_succ]
    refine ⟨?_, ?_⟩
    · as_aux_lemma =>
      intro y_ hS_ hO_ hD
      exact s_skip (by rfl) (by rfl)
    simp only [Act.put, planVG, List.setIfInBounds_toArray, List.set_cons_zero, List.set_cons_succ, List.getElem?_cons_zero, List.getElem?_cons_succ]
    refine ⟨?_, ?_⟩
    · as_aux_lemma =>
      intro y_ hS_ hO_ hD
      exact s_skip (by rfl) (by rfl)
    simp only [Act.put, planVG, List.setIfInBounds_toArray, List.set_cons_zero, List.set_cons_succ, List.getElem?_cons_zero, List.getElem?_cons_succ]
    refine ⟨?_, ?_⟩
    · as_aux_lemma =>
      intro y_ hS_ hO_ hD
      clear hS_ hO_ hD
      refine s_gen (V := .bool false) [.bool false, undef, .bool false] (by kernel_rfl) (by kernel_rfl) (by kernel_rfl) ?_
      intro r_ hr_
      have o0_ : r_ (.tmp 36) = .bool false := op_at hr_ 0 (by kernel_rfl) (by kernel_rfl)
      have o1_ : r_ (.tmp 40) = undef := op_at hr_ 1 (by kernel_rfl) (by kernel_rfl)
      have o2_ : r_ (.const (.bool false)) = .bool false := op_at hr_ 2 (by kernel_rfl) (by kernel_rfl)
      clear hr_
      go_simp; first | done | with_reducible rfl | omega
    simp only [Act.put, planVG, List.setIfInBounds_toArray, List.set_cons_zero, List.set_cons_succ, List.getElem?_cons_zero, List.getElem?_cons_succ]
    refine ⟨?_, ?_⟩
    · as_aux_lemma =>
      intro y_ hS_ hO_ hD
      clear hS_ hO_ hD
      refine s_gen (V := .bool false) [.bool false, .bool true, .bool false] (by kernel_rfl) (by kernel_rfl) (by kernel_rfl) ?_
      intro r_ hr_
      have o0_ : r_ (.tmp 32) = .bool false := op_at hr_ 0 (by kernel_rfl) (by kernel_rfl)
      have o1_ : r_ (.const (.bool true)) = .bool true := op_at hr_ 1 (by kernel_rfl) (by kernel_rfl)
      have o2_ : r_ (.tmp 41) = .bool false := op_at hr_ 2 (by kernel_rfl) (by kernel_rfl)
      clear hr_
      go_simp; first | done | with_reducible rfl | omega
    simp only [Act.put, planVG, List.setIfInBounds_toArray, List.set_cons_zero, List.set_cons_succ, List.getElem?_cons_zero, List.getElem?_cons_succ]
    refine ⟨?_, ?_⟩
    · as_aux_lemma =>
      intro y_ hS_ hO_ hD
      clear hS_ hO_ hD
      refine s_gen (V := .bool false) [.bool false] (by kernel_rfl) (by kernel_rfl) (by kernel_rfl) ?_
      intro r_ hr_
      have o0_ : r_ (.tmp 42) = .bool false := op_at hr_ 0 (by kernel_rfl) (by kernel_rfl)
      clear hr_
      go_simp; first | done | with_reducible rfl | omega
    simp only [Act.put, planVG, List.setIfInBounds_toArray, List.set_cons_zero, List.set_cons_succ, List.getElem?_cons_zero, List.getElem?_cons_succ]
    refine ⟨?_, ?_⟩
    · as_aux_lemma =>
      intro y_ hS_ hO_ hD
      have Q := ((hS_ (by rfl)).2.2.1).cell
      have q0 := Q 0 _ rfl
      have q1 := Q 1 _ rfl
      have q2 := Q 2 _ rfl
      have q3 := Q 3 _ rfl
      clear Q hS_ hO_ hD
      refine s_gen (V := wideV A) [.pointer (some ⟨w.heap.size, 0, none⟩)] (by kernel_rfl) (by kernel_rfl) (by kernel_rfl) ?_
      intro r_ hr_
      have o0_ : r_ (.tmp 2) = .pointer (some ⟨w.heap.size, 0, none⟩) := op_at hr_ 0 (by kernel_rfl) (by kernel_rfl)
      clear hr_
      go_simp; first | done | with_reducible rfl
    simp only [Act.put, planVG, List.setIfInBounds_toArray, List.set_cons_zero, List.set_cons_succ, List.getElem?_cons_zero, List.getElem?_cons_succ]
    refine ⟨?_, ?_⟩
    · as_aux_lemma =>
      intro y_ hS_ hO_ hD
      clear hS_ hO_ hD
      refine s_gen (V := .int .i64 (n)) [.int .i64 (n)] (by kernel_rfl) (by kernel_rfl) (by kernel_rfl) ?_
      intro r_ hr_
      have o0_ : r_ (.tmp 1) = .int .i64 (n) := op_at hr_ 0 (by kernel_rfl) (by kernel_rfl)
      clear hr_
      go_simp; first | done | with_reducible rfl | omega
    simp only [Act.put, planVG, List.setIfInBounds_toArray, List.set_cons_zero, List.set_cons_succ, List.getElem?_cons_zero, List.getElem?_cons_succ]
    refine ⟨?_, ?_⟩
    · as_aux_lemma =>
      intro y_ hS_ hO_ hD
      try clear hS
      clear hS_ hO_ hD
      refine s_gcall (V := .bool false) [.func (.func 24) #[] #[], wideV A, .int .i64 (n)] ?_ ?_ (by kernel_rfl) (by kernel_rfl) (by kernel_rfl) ?_ ?_
      rotate_left 2
      · intro r_ hr_
        have o0_ : r_ (.func 24) = .func (.func 24) #[] #[] := op_at hr_ 0 (by kernel_rfl) (by kernel_rfl)
        have o1_ : r_ (.tmp 44) = wideV A := op_at hr_ 1 (by kernel_rfl) (by kernel_rfl)
        have o2_ : r_ (.tmp 45) = .int .i64 (n) := op_at hr_ 2 (by kernel_rfl) (by kernel_rfl)
        clear hr_
        go_simp; first | done | with_reducible rfl | (constructor <;> with_reducible rfl)
      · refine calls_to (V := .bool false) (Lost_at (IsWide.of hA) n (by omega) (by omega) _) (by rw [HL.out])
    simp only [Act.put, planVG, List.setIfInBounds_toArray, List.set_cons_zero, List.set_cons_succ, List.getElem?_cons_zero, List.getElem?_cons_succ]
    refine ⟨?_, ?_⟩
    · as_aux_lemma =>
      intro y_ hS_ hO_ hD
      clear hS_ hO_ hD
      refine s_gen (V := .bool true) [.bool false] (by kernel_rfl) (by kernel_rfl) (by kernel_rfl) ?_
      intro r_ hr_
      have o0_ : r_ (.tmp 46) = .bool false := op_at hr_ 0 (by kernel_rfl) (by kernel_rfl)
      clear hr_
      go_simp; first | done | with_reducible rfl | omega
    simp only [Act.put, planVG, List.setIfInBounds_toArray, List.set_cons_zero, List.set_cons_succ, List.getElem?_cons_zero, List.getElem?_cons_succ]
    refine ⟨?_, ?_⟩
    · as_aux_lemma =>
      intro y_ hS_ hO_ hD
      clear hS_ hO_ hD
      refine s_gen (V := .bool true) [.bool true] (by kernel_rfl) (by kernel_rfl) (by kernel_rfl) ?_
      intro r_ hr_
      have o0_ : r_ (.tmp 47) = .bool true := op_at hr_ 0 (by kernel_rfl) (by kernel_rfl)
      clear hr_
      go_simp; first | done | with_reducible rfl | omega
    simp only [Act.put, planVG, List.setIfInBounds_toArray, List.set_cons_zero, List.set_cons_succ, List.getElem?_cons_zero, List.getElem?_cons_succ]
    refine ⟨?_, ?_⟩
    · as_aux_lemma =>
      intro y_ hS_ hO_ hD
      have Q := ((hS_ (by rfl)).2.2.2.2.1).cell
      have q0 := Q 0 _ rfl
      have q1 := Q 1 _ rfl
      have q2 := Q 2 _ rfl
      have q3 := Q 3 _ rfl
      clear Q hS_ hO_ hD
      refine s_gen (V := wideV X) [.pointer (some ⟨v1_7, 0, none⟩)] (by kernel_rfl) (by kernel_rfl) (by kernel_rfl) ?_
      intro r_ hr_
      have o0_ : r_ (.tmp 6) = .pointer (some ⟨v1_7, 0, none⟩) := op_at hr_ 0 (by kernel_rfl) (by kernel_rfl)
      clear hr_
      go_simp; first | done | with_reducible rfl
    simp only [Act.put, planVG, List.setIfInBounds_toArray, List.set_cons_zero, List.set_cons_succ, List.getElem?_cons_zero, List.getElem?_cons_succ]
    refine ⟨?_, ?_⟩
    · as_aux_lemma =>
      intro y_ hS_ hO_ hD
      have Q := ((hS_ (by rfl)).2.2.2.1).cell
      have q0 := Q 0 _ rfl
      have q1 := Q 1 _ rfl
      have q2 := Q 2 _ rfl
      have q3 := Q 3 _ rfl
      clear Q hS_ hO_ hD
      refine s_gen (V := wideV X) [.pointer (some ⟨v1_6, 0, none⟩)] (by kernel_rfl) (by kernel_rfl) (by kernel_rfl) ?_
      intro r_ hr_
      have o0_ : r_ (.tmp 5) = .pointer (some ⟨v1_6, 0, none⟩) := op_at hr_ 0 (by kernel_rfl) (by kernel_rfl)
      clear hr_
      go_simp; first | done | with_reducible rfl
    simp only [Act.put, planVG, List.setIfInBounds_toArray, List.set_cons_zero, List.set_cons_succ, List.getElem?_cons_zero, List.getElem?_cons_succ]
    refine ⟨?_, ?_⟩
    · as_aux_lemma =>
      intro y_ hS_ hO_ hD
      clear hS_ hO_ hD
      refine s_gen (V := .bool false) [wideV X, wideV X] (by kernel_rfl) (by kernel_rfl) (by kernel_rfl) ?_
      intro r_ hr_
      have o0_ : r_ (.tmp 49) = wideV X := op_at hr_ 0 (by kernel_rfl) (by kernel_rfl)
      have o1_ : r_ (.tmp 50) = wideV X := op_at hr_ 1 (by kernel_rfl) (by kernel_rfl)
      clear hr_
      go_simp; first | done | with_reducible rfl | omega
    simp only [Act.put, planVG, List.setIfInBounds_toArray, List.set_cons_zero, List.set_cons_succ, List.getElem?_cons_zero, List.getElem?_cons_succ]
    refine ⟨?_, ?_⟩
    · as_aux_lemma =>
      intro y_ hS_ hO_ hD
      clear hS_ hO_ hD
      refine s_gen (V := .bool false) [.bool true, .bool false, .bool false] (by kernel_rfl) (by kernel_rfl) (by kernel_rfl) ?_
      intro r_ hr_
      have o0_ : r_ (.tmp 48) = .bool true := op_at hr_ 0 (by kernel_rfl) (by kernel_rfl)
      have o1_ : r_ (.tmp 51) = .bool false := op_at hr_ 1 (by kernel_rfl) (by kernel_rfl)
      have o2_ : r_ (.const (.bool false)) = .bool false := op_at hr_ 2 (by kernel_rfl) (by kernel_rfl)
      clear hr_
      go_simp; first | done | with_reducible rfl | omega
    simp only [Act.put, planVG, List.setIfInBounds_toArray, List.set_cons_zero, List.set_cons_succ, List.getElem?_cons_zero, List.getElem?_cons_succ]
    refine ⟨?_, ?_⟩
    · as_aux_lemma =>
      intro y_ hS_ hO_ hD
      clear hS_ hO_ hD
      refine s_gen (V := .bool false) [.bool false, .bool true, .bool false] (by kernel_rfl) (by kernel_rfl) (by kernel_rfl) ?_
      intro r_ hr_
      have o0_ : r_ (.tmp 43) = .bool false := op_at hr_ 0 (by kernel_rfl) (by kernel_rfl)
      have o1_ : r_ (.const (.bool true)) = .bool true := op_at hr_ 1 (by kernel_rfl) (by kernel_rfl)
      have o2_ : r_ (.tmp 52) = .bool false := op_at hr_ 2 (by kernel_rfl) (by kernel_rfl)
      clear hr_
      go_simp; first | done | with_reducible rfl | omega
    simp only [Act.put, planVG, List.setIfInBounds_toArray, List.set_cons_zero, List.set_cons_succ, List.getElem?_cons_zero, List.getElem?_cons_succ]
    as_aux_lemma =>
      intro w3 hS hF hD_
      change wpList _ _ _ _ _ _
      replace hS := sg_no (by decide) hS
      obtain ⟨hk, hZ3, X1, Bv1_6, Bv1_7, X2⟩ := hS
      clear hF hD_
      clear ρ
      have hz_w3 := hk.size
      have X1l := X1.lt
      have X1f := X1.free
      have X1l1 : w.heap.size < w3.heap.size + 1 := by omega
      have X1l2 : w.heap.size < w3.heap.size + 1 + 1 := by omega
      have X1l3 : w.heap.size < w3.heap.size + 1 + 1 + 1 := by omega
      have X10 := X1.cell 0 _ rfl
      have X11 := X1.cell 1 _ rfl
      have X12 := X1.cell 2 _ rfl
      have X13 := X1.cell 3 _ rfl
      have Bv1_6l := Bv1_6.lt
      have Bv1_6f := Bv1_6.free
      have Bv1_6l1 : v1_6 < w3.heap.size + 1 := by omega
      have Bv1_6l2 : v1_6 < w3.heap.size + 1 + 1 := by omega
      have Bv1_6l3 : v1_6 < w3.heap.size + 1 + 1 + 1 := by omega
      have Bv1_60 := Bv1_6.cell 0 _ rfl
      have Bv1_61 := Bv1_6.cell 1 _ rfl
      have Bv1_62 := Bv1_6.cell 2 _ rfl
      have Bv1_63 := Bv1_6.cell 3 _ rfl
      have Bv1_7l := Bv1_7.lt
      have Bv1_7f := Bv1_7.free
      have Bv1_7l1 : v1_7 < w3.heap.size + 1 := by omega
      have Bv1_7l2 : v1_7 < w3.heap.size + 1 + 1 := by omega
      have Bv1_7l3 : v1_7 < w3.heap.size + 1 + 1 + 1 := by omega
      have Bv1_70 := Bv1_7.cell 0 _ rfl
      have Bv1_71 := Bv1_7.cell 1 _ rfl
      have Bv1_72 := Bv1_7.cell 2 _ rfl
      have Bv1_73 := Bv1_7.cell 3 _ rfl
      have X2l := X2.lt
      have X2f := X2.free
      have X2l1 : w2.heap.size < w3.heap.size + 1 := by omega
      have X2l2 : w2.heap.size < w3.heap.size + 1 + 1 := by omega
      have X2l3 : w2.heap.size < w3.heap.size + 1 + 1 + 1 := by omega
      have X20 := X2.cell 0 _ rfl
      have X21 := X2.cell 1 _ rfl
      have X22 := X2.cell 2 _ rfl
      have X23 := X2.cell 3 _ rfl
      go_wp2
      refine wp_region_g 11 (fun W' => Kept w.heap.size w W' ∧ w3.heap.size ≤ W'.heap.size ∧ Box W' (w.heap.size) #[.int .u64 (limb 0 A), .int .u64 (limb 1 A), .int .u64 (limb 2 A), .int .u64 (limb 3 A)] ∧ Box W' (v1_7) #[.int .u64 (limb 0 X), .int .u64 (limb 1 X), .int .u64 (limb 2 X), .int .u64 (limb 3 X)]) (fun W' => Kept w.heap.size w W' ∧ w3.heap.size ≤ W'.heap.size ∧ Box W' (w.heap.size) #[.int .u64 (limb 0 A), .int .u64 (limb 1 A), .int .u64 (limb 2 A), .int .u64 (limb 3 A)] ∧ Box W' (v1_7) #[.int .u64 (limb 0 X), .int .u64 (limb 1 X), .int .u64 (limb 2 X), .int .u64 (limb 3 X)]) 1000 (w3.heap.size) [.known (wideV X), .known (.agg #[.int .u64 0, .int .u64 0, .int .u64 0, .int .u64 0]), .known (.bool false), .known (wideV A), .known (.agg #[.int .u64 0, .int .u64 0, .int .u64 0, .int .u64 0]), .known (.bool false), .known (.bool true), .known (.bool true), .known (.bool true), .known (.bool true), .known (.bool true)] (by kernel_rfl) (by kernel_rfl) (fun W W' h hb => ⟨h.1.step hb, Nat.le_trans (h.2.1) hb.size, Box.call hb (h.2.2.1), Box.call hb (h.2.2.2)⟩) (fun W W' h hb => ⟨h.1.step hb, Nat.le_trans (h.2.1) hb.size, Box.call hb (h.2.2.1), Box.call hb (h.2.2.2)⟩) (no_out (of_decide_eq_true (by kernel_rfl))) (.inl (by kernel_rfl)) (.inl (by kernel_rfl)) (fun _ h => h.2.1) (fun _ h => h.2.1) (⟨(by repeat (first | with_reducible exact hk | with_reducible exact Kept.refl _ | with_reducible refine Kept.alloc ?_ _ | with_reducible refine Kept.drew ?_ | with_reducible refine Kept.setCell ?_ (by simp only [World.size_alloc, World.size_setCell, World.size_drew]; omega) _)), (by (try simp only [World.size_alloc, World.size_setCell, World.size_drew]); omega), (by repeat (first | with_reducible assumption | with_reducible apply Box.set10 | with_reducible apply Box.set20 | with_reducible apply Box.set21 | with_reducible apply Box.set40 | with_reducible apply Box.set41 | with_reducible apply Box.set42 | with_reducible apply Box.set43 | with_reducible apply Box.set50 | with_reducible apply Box.set51 | with_reducible apply Box.set52 | with_reducible apply Box.set53 | with_reducible apply Box.set54 | with_reducible apply Box.drew | (with_reducible apply Box.newAt; (try simp only [World.size_alloc, World.size_setCell, World.size_drew]); done) | with_reducible apply Box.alloc | (with_reducible apply Box.other; case hne => ((try simp only [World.size_alloc, World.size_setCell, World.size_drew]); omega)))), (by repeat (first | with_reducible assumption | with_reducible apply Box.set10 | with_reducible apply Box.set20 | with_reducible apply Box.set21 | with_reducible apply Box.set40 | with_reducible apply Box.set41 | with_reducible apply Box.set42 | with_reducible apply Box.set43 | with_reducible apply Box.set50 | with_reducible apply Box.set51 | with_reducible apply Box.set52 | with_reducible apply Box.set53 | with_reducible apply Box.set54 | with_reducible apply Box.drew | (with_reducible apply Box.newAt; (try simp only [World.size_alloc, World.size_setCell, World.size_drew]); done) | with_reducible apply Box.alloc | (with_reducible apply Box.other; case hne => ((try simp only [World.size_alloc, World.size_setCell, World.size_drew]); omega))))⟩) ?_
      clear hk
      clear X1 X1l1 X1l2 X1l3 X1f X10 X11 X12 X13
      clear Bv1_6 Bv1_6l1 Bv1_6l2 Bv1_6l3 Bv1_6f Bv1_60 Bv1_61 Bv1_62 Bv1_63
      clear Bv1_7 Bv1_7l1 Bv1_7l2 Bv1_7l3 Bv1_7f Bv1_70 Bv1_71 Bv1_72 Bv1_73
      clear X2 X2l1 X2l2 X2l3 X2f X20 X21 X22 X23
      intro ρ
      simp only [List.take_succ_cons, List.take_zero, List.drop_succ_cons, List.drop_zero]
      refine ⟨?_, ?_⟩
      · as_aux_lemma =>
        intro y_ hS_ hO_ hD
        have Q := ((hS_ (by rfl)).2.2.2).cell
        have q0 := Q 0 _ rfl
        have q1 := Q 1 _ rfl
        have q2 := Q 2 _ rfl
        have q3 := Q 3 _ rfl
        clear Q hS_ hO_ hD
        refine s_gen (V := wideV X) [.pointer (some ⟨v1_7, 0, none⟩)] (by kernel_rfl) (by kernel_rfl) (by kernel_rfl) ?_
        intro r_ hr_
        have o0_ : r_ (.tmp 6) = .pointer (some ⟨v1_7, 0, none⟩) := op_at hr_ 0 (by kernel_rfl) (by kernel_rfl)
        clear hr_
        go_simp; first | done | with_reducible rfl
      simp only [Act.put, planVG, List.setIfInBounds_toArray, List.set_cons_zero, List.set_cons_succ, List.getElem?_cons_zero, List.getElem?_cons_succ]
      refine ⟨?_, ?_⟩
      · as_aux_lemma =>
        intro y_ hS_ hO_ hD
        clear hS_ hO_ hD
        refine s_gen (V := .agg #[.int .u64 0, .int .u64 0, .int .u64 0, .int .u64 0]) [] (by kernel_rfl) (by kernel_rfl) (by kernel_rfl) ?_
        intro r_ hr_
        
        clear hr_
        go_simp; first | done | with_reducible rfl | omega
      simp only [Act.put, planVG, List.setIfInBounds_toArray, List.set_cons_zero, List.set_cons_succ, List.getElem?_cons_zero, List.getElem?_cons_succ]
      refine ⟨?_, ?_⟩
      · as_aux_lemma =>
        intro y_ hS_ hO_ hD
        clear hS_ hO_ hD
        refine s_gen (V := .bool false) [wideV X, .agg #[.int .u64 0, .int .u64 0, .int .u64 0, .int .u64 0]] (by kernel_rfl) (by kernel_rfl) (by kernel_rfl) ?_
        intro r_ hr_
        have o0_ : r_ (.tmp 54) = wideV X := op_at hr_ 0 (by kernel_rfl) (by kernel_rfl)
        have o1_ : r_ (.tmp 55) = .agg #[.int .u64 0, .int .u64 0, .int .u64 0, .int .u64 0] := op_at hr_ 1 (by kernel_rfl) (by kernel_rfl)
        clear hr_
        go_simp; first | done | with_reducible rfl | omega
      simp only [Act.put, planVG, List.setIfInBounds_toArray, List.set_cons_zero, List.set_cons_succ, List.getElem?_cons_zero, List.getElem?_cons_succ]
      refine ⟨?_, ?_⟩
      · as_aux_lemma =>
        intro y_ hS_ hO_ hD
        have Q := ((hS_ (by rfl)).2.2.1).cell
        have q0 := Q 0 _ rfl
        have q1 := Q 1 _ rfl
        have q2 := Q 2 _ rfl
        have q3 := Q 3 _ rfl
        clear Q hS_ hO_ hD
        refine s_gen (V := wideV A) [.pointer (some ⟨w.heap.size, 0, none⟩)] (by kernel_rfl) (by kernel_rfl) (by kernel_rfl) ?_
        intro r_ hr_
        have o0_ : r_ (.tmp 2) = .pointer (some ⟨w.heap.size, 0, none⟩) := op_at hr_ 0 (by kernel_rfl) (by kernel_rfl)
        clear hr_
        go_simp; first | done | with_reducible rfl
      simp only [Act.put, planVG, List.setIfInBounds_toArray, List.set_cons_zero, List.set_cons_succ, List.getElem?_cons_zero, List.getElem?_cons_succ]
      refine ⟨?_, ?_⟩
      · as_aux_lemma =>
        intro y_ hS_ hO_ hD
        clear hS_ hO_ hD
        refine s_gen (V := .agg #[.int .u64 0, .int .u64 0, .int .u64 0, .int .u64 0]) [] (by kernel_rfl) (by kernel_rfl) (by kernel_rfl) ?_
        intro r_ hr_
        
        clear hr_
        go_simp; first | done | with_reducible rfl | omega
      simp only [Act.put, planVG, List.setIfInBounds_toArray, List.set_cons_zero, List.set_cons_succ, List.getElem?_cons_zero, List.getElem?_cons_succ]
      refine ⟨?_, ?_⟩
      · as_aux_lemma =>
        intro y_ hS_ hO_ hD
        clear hS_ hO_ hD
        refine s_gen (V := .bool false) [wideV A, .agg #[.int .u64 0, .int .u64 0, .int .u64 0, .int .u64 0]] (by kernel_rfl) (by kernel_rfl) (by kernel_rfl) ?_
        intro r_ hr_
        have o0_ : r_ (.tmp 57) = wideV A := op_at hr_ 0 (by kernel_rfl) (by kernel_rfl)
        have o1_ : r_ (.tmp 58) = .agg #[.int .u64 0, .int .u64 0, .int .u64 0, .int .u64 0] := op_at hr_ 1 (by kernel_rfl) (by kernel_rfl)
        clear hr_
        go_simp; first | done | with_reducible rfl | omega
      simp only [Act.put, planVG, List.setIfInBounds_toArray, List.set_cons_zero, List.set_cons_succ, List.getElem?_cons_zero, List.getElem?_cons_succ]
      refine ⟨?_, ?_⟩
      · as_aux_lemma =>
        intro y_ hS_ hO_ hD
        clear hS_ hO_ hD
        refine s_gen (V := .bool true) [.bool false, .bool false] (by kernel_rfl) (by kernel_rfl) (by kernel_rfl) ?_
        intro r_ hr_
        have o0_ : r_ (.tmp 56) = .bool false := op_at hr_ 0 (by kernel_rfl) (by kernel_rfl)
        have o1_ : r_ (.tmp 59) = .bool false := op_at hr_ 1 (by kernel_rfl) (by kernel_rfl)
        clear hr_
        go_simp; first | done | with_reducible rfl | omega
      simp only [Act.put, planVG, List.setIfInBounds_toArray, List.set_cons_zero, List.set_cons_succ, List.getElem?_cons_zero, List.getElem?_cons_succ]
      refine ⟨?_, ?_⟩
      · as_aux_lemma =>
        intro y_ hS_ hO_ hD
        clear hS_ hO_ hD
        refine s_gen (V := .bool true) [.bool true] (by kernel_rfl) (by kernel_rfl) (by kernel_rfl) ?_
        intro r_ hr_
        have o0_ : r_ (.tmp 60) = .bool true := op_at hr_ 0 (by kernel_rfl) (by kernel_rfl)
        clear hr_
        go_simp; first | done | with_reducible rfl | omega
      simp only [Act.put, planVG, List.setIfInBounds_toArray, List.set_cons_zero, List.set_cons_succ, List.getElem?_cons_zero, List.getElem?_cons_succ]
      refine ⟨?_, ?_⟩
      · as_aux_lemma =>
        intro y_ hS_ hO_ hD
        try clear hS
        clear hS_ hO_ hD
        refine s_gcall (V := .bool true) [.func (.func 18) #[] #[]] ?_ ?_ (by kernel_rfl) (by kernel_rfl) (by kernel_rfl) ?_ ?_
        rotate_left 2
        · intro r_ hr_
          have o0_ : r_ (.func 18) = .func (.func 18) #[] #[] := op_at hr_ 0 (by kernel_rfl) (by kernel_rfl)
          clear hr_
          go_simp; first | done | with_reducible rfl | (constructor <;> with_reducible rfl)
        · refine goes03_any _
      simp only [Act.put, planVG, List.setIfInBounds_toArray, List.set_cons_zero, List.set_cons_succ, List.getElem?_cons_zero, List.getElem?_cons_succ]
      refine ⟨?_, ?_⟩
      · as_aux_lemma =>
        intro y_ hS_ hO_ hD
        clear hS_ hO_ hD
        refine s_gen (V := .bool true) [.bool true, .bool true, .bool false] (by kernel_rfl) (by kernel_rfl) (by kernel_rfl) ?_
        intro r_ hr_
        have o0_ : r_ (.tmp 61) = .bool true := op_at hr_ 0 (by kernel_rfl) (by kernel_rfl)
        have o1_ : r_ (.tmp 62) = .bool true := op_at hr_ 1 (by kernel_rfl) (by kernel_rfl)
        have o2_ : r_ (.const (.bool false)) = .bool false := op_at hr_ 2 (by kernel_rfl) (by kernel_rfl)
        clear hr_
        go_simp; first | done | with_reducible rfl | omega
      simp only [Act.put, planVG, List.setIfInBounds_toArray, List.set_cons_zero, List.set_cons_succ, List.getElem?_cons_zero, List.getElem?_cons_succ]
      refine ⟨?_, ?_⟩
      · as_aux_lemma =>
        intro y_ hS_ hO_ hD
        clear hS_ hO_ hD
        refine s_gen (V := .bool true) [.bool true] (by kernel_rfl) (by kernel_rfl) (by kernel_rfl) ?_
        intro r_ hr_
        have o0_ : r_ (.tmp 63) = .bool true := op_at hr_ 0 (by kernel_rfl) (by kernel_rfl)
        clear hr_
        go_simp; first | done | with_reducible rfl | omega
      simp only [Act.put, planVG, List.setIfInBounds_toArray, List.set_cons_zero, List.set_cons_succ, List.getElem?_cons_zero, List.getElem?_cons_succ]
      as_aux_lemma =>
        intro w4 hS hF hD_
        change wpList _ _ _ _ _ _
        replace hS := sg_no (by decide) hS
        obtain ⟨hk, hZ4, X1, Bv1_7⟩ := hS
        clear hF hD_
        clear ρ
        have hz_w4 := hk.size
        have X1l := X1.lt
        have X1f := X1.free
        have X1l1 : w.heap.size < w4.heap.size + 1 := by omega
        have X1l2 : w.heap.size < w4.heap.size + 1 + 1 := by omega
        have X1l3 : w.heap.size < w4.heap.size + 1 + 1 + 1 := by omega
        have X10 := X1.cell 0 _ rfl
        have X11 := X1.cell 1 _ rfl
        have X12 := X1.cell 2 _ rfl
        have X13 := X1.cell 3 _ rfl
        have Bv1_7l := Bv1_7.lt
        have Bv1_7f := Bv1_7.free
        have Bv1_7l1 : v1_7 < w4.heap.size + 1 := by omega
        have Bv1_7l2 : v1_7 < w4.heap.size + 1 + 1 := by omega
        have Bv1_7l3 : v1_7 < w4.heap.size + 1 + 1 + 1 := by omega
        have Bv1_70 := Bv1_7.cell 0 _ rfl
        have Bv1_71 := Bv1_7.cell 1 _ rfl
        have Bv1_72 := Bv1_7.cell 2 _ rfl
        have Bv1_73 := Bv1_7.cell 3 _ rfl
        go_wp2
        go_ret
        exact ⟨rfl, (by refine Kept.below ?_; repeat (first | with_reducible exact hk | with_reducible exact Kept.refl _ | with_reducible refine Kept.alloc ?_ _ | with_reducible refine Kept.drew ?_ | with_reducible refine Kept.setCell ?_ (by simp only [World.size_alloc, World.size_setCell, World.size_drew]; omega) _))⟩

set_option maxRecDepth 100000 in
set_option maxHeartbeats 8000000 in
theorem ShiftJams_odd {A X : Nat} {n : Int} (hA : W256 A) (hX : W256 X) (n0 : -9223372036854775808 ≤ n) (n1 : n ≤ 9223372036854775807) (hA0 : A ≠ 0) (hY0 : X ≠ 0) (hL : lostB A n = true) (eX : rightN A n = X) (eY : jamN A n = X) (eD : wideV (sub256 X X) = .agg #[.int .u64 0, .int .u64 0, .int .u64 0, .int .u64 0]) (eB : ltB X X = false) (ho : bits .and .u64 (limb 0 X) 1 = 1) (w : World) :
    Calls Try.prog 5 #[wideV A, .int .i64 n] w fun e w' => e = .returned (.bool true) ∧ Below w.heap.size w w' := by
  have hk := Kept.refl w
  have HL := Lib.hid hL; have HX := Lib.hid eX; have HY := Lib.hid eY; have HD := Lib.hid eD; have HB := Lib.hid eB
  have q1 : eqW (limb 0 A) (limb 1 A) (limb 2 A) (limb 3 A) 0 0 0 0 = false := by rw [eqW_at (IsWide.of hA) (IsWide.val u64_zero u64_zero u64_zero u64_zero)]; exact decide_eq_false hA0
  have q2 : eqW (limb 0 X) (limb 1 X) (limb 2 X) (limb 3 X) 0 0 0 0 = false := by rw [eqW_at (IsWide.of hX) (IsWide.val u64_zero u64_zero u64_zero u64_zero)]; exact decide_eq_false hY0
  have q3 : eqW 0 0 0 0 1 0 0 0 = false := by decide
  have q4 : eqW 1 0 0 0 0 0 0 0 = false := by decide
  clear hL eX eY eD eB hA0 hY0
  go_enter Try.func5, Try.ntmps5
  go_wp2
  refine wp_region_g 10 (fun W' => Kept w.heap.size w W' ∧ w.heap.size + 1 ≤ W'.heap.size ∧ Box W' (w.heap.size) #[.int .u64 (limb 0 A), .int .u64 (limb 1 A), .int .u64 (limb 2 A), .int .u64 (limb 3 A)]) (fun W' => Kept w.heap.size w W' ∧ w.heap.size + 1 ≤ W'.heap.size ∧ Box W' (w.heap.size) #[.int .u64 (limb 0 A), .int .u64 (limb 1 A), .int .u64 (limb 2 A), .int .u64 (limb 3 A)]) 1000 (w.heap.size + 1) [.known (wideV A), .known (.int .i64 (n)), .known (wideV X), .known (wideV A), .known (.int .i64 (n)), .known (wideV X), .var #[.int .u64 0, .int .u64 0, .int .u64 0, .int .u64 0] 8 [.int .u64 (limb 0 X), .int .u64 (limb 1 X), .int .u64 (limb 2 X), .int .u64 (limb 3 X)], .var #[.int .u64 0, .int .u64 0, .int .u64 0, .int .u64 0] 9 [.int .u64 (limb 0 X), .int .u64 (limb 1 X), .int .u64 (limb 2 X), .int .u64 (limb 3 X)], .put 6, .put 7] (by kernel_rfl) (by kernel_rfl) (fun W W' h hb => ⟨h.1.step hb, Nat.le_trans (h.2.1) hb.size, Box.call hb (h.2.2)⟩) (fun W W' h hb => ⟨h.1.step hb, Nat.le_trans (h.2.1) hb.size, Box.call hb (h.2.2)⟩) (no_out (of_decide_eq_true (by kernel_rfl))) (.inr (fun W' b i v hb h => ⟨h.1.setCell (p := ⟨b, i, none⟩) (by simp only []; omega) v, (by rw [World.size_setCell]; exact h.2.1), (h.2.2).other (by omega)⟩)) (.inr (fun W' b i v hb h => ⟨h.1.setCell (p := ⟨b, i, none⟩) (by simp only []; omega) v, (by rw [World.size_setCell]; exact h.2.1), (h.2.2).other (by omega)⟩)) (fun _ h => h.2.1) (fun _ h => h.2.1) (⟨(by repeat (first | with_reducible exact hk | with_reducible exact Kept.refl _ | with_reducible refine Kept.alloc ?_ _ | with_reducible refine Kept.drew ?_ | with_reducible refine Kept.setCell ?_ (by simp only [World.size_alloc, World.size_setCell, World.size_drew]; omega) _)), (by (try simp only [World.size_alloc, World.size_setCell, World.size_drew]); omega), (by repeat (first | with_reducible assumption | with_reducible apply Box.set10 | with_reducible apply Box.set20 | with_reducible apply Box.set21 | with_reducible apply Box.set40 | with_reducible apply Box.set41 | with_reducible apply Box.set42 | with_reducible apply Box.set43 | with_reducible apply Box.set50 | with_reducible apply Box.set51 | with_reducible apply Box.set52 | with_reducible apply Box.set53 | with_reducible apply Box.set54 | with_reducible apply Box.drew | (with_reducible apply Box.newAt; (try simp only [World.size_alloc, World.size_setCell, World.size_drew]); done) | with_reducible apply Box.alloc | (with_reducible apply Box.other; case hne => ((try simp only [World.size_alloc, World.size_setCell, World.size_drew]); omega))))⟩) ?_
  clear hk
  intro ρ
  simp only [List.take_succ_cons, List.take_zero, List.drop_succ_cons, List.drop_zero]
  refine ⟨?_, ?_⟩
  · as_aux_lemma =>
    intro y_ hS_ hO_ hD
    have Q := ((hS_ (by rfl)).2.2).cell
    have q0 := Q 0 _ rfl
    have q1 := Q 1 _ rfl
    have q2 := Q 2 _ rfl
    have q3 := Q 3 _ rfl
    clear Q hS_ hO_ hD
    refine s_gen (V := wideV A) [.pointer (some ⟨w.heap.size, 0, none⟩)] (by kernel_rfl) (by kernel_rfl) (by kernel_rfl) ?_
    intro r_ hr_
    have o0_ : r_ (.tmp 2) = .pointer (some ⟨w.heap.size, 0, none⟩) := op_at hr_ 0 (by kernel_rfl) (by kernel_rfl)
    clear hr_
    go_simp; first | done | with_reducible rfl
  simp only [Act.put, planVG, List.setIfInBounds_toArray, List.set_cons_zero, List.set_cons_succ, List.getElem?_cons_zero, List.getElem?_cons_succ]
  refine ⟨?_, ?_⟩
  · as_aux_lemma =>
    intro y_ hS_ hO_ hD
    clear hS_ hO_ hD
    refine s_gen (V := .int .i64 (n)) [.int .i64 (n)] (by kernel_rfl) (by kernel_rfl) (by kernel_rfl) ?_
    intro r_ hr_
    have o0_ : r_ (.tmp 1) = .int .i64 (n) := op_at hr_ 0 (by kernel_rfl) (by kernel_rfl)
    clear hr_
    go_simp; first | done | with_reducible rfl | omega
  simp only [Act.put, planVG, List.setIfInBounds_toArray, List.set_cons_zero, List.set_cons_succ, List.getElem?_cons_zero, List.getElem?_cons_succ]
  refine ⟨?_, ?_⟩
  · as_aux_lemma =>
    intro y_ hS_ hO_ hD
    try clear hS
    clear hS_ hO_ hD
    refine s_gcall (V := wideV X) [.func (.func 22) #[] #[], wideV A, .int .i64 (n)] ?_ ?_ (by kernel_rfl) (by kernel_rfl) (by kernel_rfl) ?_ ?_
    rotate_left 2
    · intro r_ hr_
      have o0_ : r_ (.func 22) = .func (.func 22) #[] #[] := op_at hr_ 0 (by kernel_rfl) (by kernel_rfl)
      have o1_ : r_ (.tmp 9) = wideV A := op_at hr_ 1 (by kernel_rfl) (by kernel_rfl)
      have o2_ : r_ (.tmp 10) = .int .i64 (n) := op_at hr_ 2 (by kernel_rfl) (by kernel_rfl)
      clear hr_
      go_simp; first | done | with_reducible rfl | (constructor <;> with_reducible rfl)
    · refine calls_to (V := wideV X) (WideRight_at (IsWide.of hA) n (by omega) (by omega) _) (by rw [HX.out])
  simp only [Act.put, planVG, List.setIfInBounds_toArray, List.set_cons_zero, List.set_cons_succ, List.getElem?_cons_zero, List.getElem?_cons_succ]
  refine ⟨?_, ?_⟩
  · as_aux_lemma =>
    intro y_ hS_ hO_ hD
    have Q := ((hS_ (by rfl)).2.2).cell
    have q0 := Q 0 _ rfl
    have q1 := Q 1 _ rfl
    have q2 := Q 2 _ rfl
    have q3 := Q 3 _ rfl
    clear Q hS_ hO_ hD
    refine s_gen (V := wideV A) [.pointer (some ⟨w.heap.size, 0, none⟩)] (by kernel_rfl) (by kernel_rfl) (by kernel_rfl) ?_
    intro r_ hr_
    have o0_ : r_ (.tmp 2) = .pointer (some ⟨w.heap.size, 0, none⟩) := op_at hr_ 0 (by kernel_rfl) (by kernel_rfl)
    clear hr_
    go_simp; first | done | with_reducible rfl
  simp only [Act.put, planVG, List.setIfInBounds_toArray, List.set_cons_zero, List.set_cons_succ, List.getElem?_cons_zero, List.getElem?_cons_succ]
  refine ⟨?_, ?_⟩
  · as_aux_lemma =>
    intro y_ hS_ hO_ hD
    clear hS_ hO_ hD
    refine s_gen (V := .int .i64 (n)) [.int .i64 (n)] (by kernel_rfl) (by kernel_rfl) (by kernel_rfl) ?_
    intro r_ hr_
    have o0_ : r_ (.tmp 1) = .int .i64 (n) := op_at hr_ 0 (by kernel_rfl) (by kernel_rfl)
    clear hr_
    go_simp; first | done | with_reducible rfl | omega
  simp only [Act.put, planVG, List.setIfInBounds_toArray, List.set_cons_zero, List.set_cons_succ, List.getElem?_cons_zero, List.getElem?_cons_succ]
  refine ⟨?_, ?_⟩
  · as_aux_lemma =>
    intro y_ hS_ hO_ hD
    try clear hS
    clear hS_ hO_ hD
    refine s_gcall (V := wideV X) [.func (.func 23) #[] #[], wideV A, .int .i64 (n)] ?_ ?_ (by kernel_rfl) (by kernel_rfl) (by kernel_rfl) ?_ ?_
    rotate_left 2
    · intro r_ hr_
      have o0_ : r_ (.func 23) = .func (.func 23) #[] #[] := op_at hr_ 0 (by kernel_rfl) (by kernel_rfl)
      have o1_ : r_ (.tmp 12) = wideV A := op_at hr_ 1 (by kernel_rfl) (by kernel_rfl)
      have o2_ : r_ (.tmp 13) = .int .i64 (n) := op_at hr_ 2 (by kernel_rfl) (by kernel_rfl)
      clear hr_
      go_simp; first | done | with_reducible rfl | (constructor <;> with_reducible rfl)
    · refine calls_to (V := wideV X) (WideJam_at (IsWide.of hA) n (by omega) (by omega) _) (by rw [HY.out])
  simp only [Act.put, planVG, List.setIfInBounds_toArray, List.set_cons_zero, List.set_cons_succ, List.getElem?_cons_zero, List.getElem?_cons_succ]
  refine ⟨?_, ?_⟩
  · as_aux_lemma =>
    intro y_ hS_ hO_ hD
    clear hS_ hO_ hD
    refine s_alloc (by rfl) (by rfl) ?_
    simp only [allocTy]
    go_simp; first | done | with_reducible rfl | rfl
  simp only [Act.put, planVG, List.setIfInBounds_toArray, List.set_cons_zero, List.set_cons_succ, List.getElem?_cons_zero, List.getElem?_cons_succ]
  refine ⟨?_, ?_⟩
  · as_aux_lemma =>
    intro y_ hS_ hO_ hD
    clear hS_ hO_ hD
    refine s_alloc (by rfl) (by rfl) ?_
    simp only [allocTy]
    go_simp; first | done | with_reducible rfl | rfl
  simp only [Act.put, planVG, List.setIfInBounds_toArray, List.set_cons_zero, List.set_cons_succ, List.getElem?_cons_zero, List.getElem?_cons_succ]
  refine ⟨?_, ?_⟩
  · as_aux_lemma =>
    intro y_ hS_ hO_ hD
    have hS := hS_ (by rfl)
    clear hS hS_ hO_ hD
    refine s_gput (j := 6) (Z := #[.int .u64 0, .int .u64 0, .int .u64 0, .int .u64 0]) (V := [.int .u64 (limb 0 X), .int .u64 (limb 1 X), .int .u64 (limb 2 X), .int .u64 (limb 3 X)]) [ρ 6, wideV X] (by kernel_rfl) (by kernel_rfl) (by kernel_rfl) (by kernel_rfl) ?_
    intro r_ b hr_ hb hB F
    have o0_ : r_ (.tmp 5) = ρ 6 := op_at hr_ 0 (by kernel_rfl) (by kernel_rfl)
    have o1_ : r_ (.tmp 11) = wideV X := op_at hr_ 1 (by kernel_rfl) (by kernel_rfl)
    clear hr_
    rw [hb] at o0_
    have Q := F.cell
    have q0 := Q 0 _ rfl
    have q1 := Q 1 _ rfl
    have q2 := Q 2 _ rfl
    have q3 := Q 3 _ rfl
    have Qf := F.free
    have Ql := F.lt
    clear Q F
    simp only [putCells]
    go_simp; first | done | with_reducible rfl | rfl
  simp only [Act.put, planVG, List.setIfInBounds_toArray, List.set_cons_zero, List.set_cons_succ, List.getElem?_cons_zero, List.getElem?_cons_succ]
  refine ⟨?_, ?_⟩
  · as_aux_lemma =>
    intro y_ hS_ hO_ hD
    have hS := hS_ (by rfl)
    clear hS hS_ hO_ hD
    refine s_gput (j := 7) (Z := #[.int .u64 0, .int .u64 0, .int .u64 0, .int .u64 0]) (V := [.int .u64 (limb 0 X), .int .u64 (limb 1 X), .int .u64 (limb 2 X), .int .u64 (limb 3 X)]) [ρ 7, wideV X] (by kernel_rfl) (by kernel_rfl) (by kernel_rfl) (by kernel_rfl) ?_
    intro r_ b hr_ hb hB F
    have o0_ : r_ (.tmp 6) = ρ 7 := op_at hr_ 0 (by kernel_rfl) (by kernel_rfl)
    have o1_ : r_ (.tmp 14) = wideV X := op_at hr_ 1 (by kernel_rfl) (by kernel_rfl)
    clear hr_
    rw [hb] at o0_
    have Q := F.cell
    have q0 := Q 0 _ rfl
    have q1 := Q 1 _ rfl
    have q2 := Q 2 _ rfl
    have q3 := Q 3 _ rfl
    have Qf := F.free
    have Ql := F.lt
    clear Q F
    simp only [putCells]
    go_simp; first | done | with_reducible rfl | rfl
  simp only [Act.put, planVG, List.setIfInBounds_toArray, List.set_cons_zero, List.set_cons_succ, List.getElem?_cons_zero, List.getElem?_cons_succ]
  as_aux_lemma =>
    intro w1 hS hF hD_
    change wpList _ _ _ _ _ _
    replace hS := sg_no (by decide) hS
    obtain ⟨hk, hZ1, X1⟩ := hS
    obtain ⟨v1_6, e_v1_6, hv1_6, Bv1_6⟩ : ∃ b, ρ 6 = .pointer (some ⟨b, 0, none⟩) ∧ w.heap.size + 1 ≤ b ∧ Box w1 b #[.int .u64 (limb 0 X), .int .u64 (limb 1 X), .int .u64 (limb 2 X), .int .u64 (limb 3 X)] := by
      obtain ⟨b, h1, h2, h3⟩ := hF 6 (by decide)
      exact ⟨b, h1, h2, h3.lt, h3.cell, h3.free⟩
    obtain ⟨v1_7, e_v1_7, hv1_7, Bv1_7⟩ : ∃ b, ρ 7 = .pointer (some ⟨b, 0, none⟩) ∧ w.heap.size + 1 ≤ b ∧ Box w1 b #[.int .u64 (limb 0 X), .int .u64 (limb 1 X), .int .u64 (limb 2 X), .int .u64 (limb 3 X)] := by
      obtain ⟨b, h1, h2, h3⟩ := hF 7 (by decide)
      exact ⟨b, h1, h2, h3.lt, h3.cell, h3.free⟩
    have nv1_6_v1_7 : ¬ v1_6 = v1_7 := fun h => hD_ 6 7 (by decide) (by decide) (by decide) (by rfl) (by rfl) (by rw [e_v1_6, e_v1_7, h])
    have nv1_7_v1_6 : ¬ v1_7 = v1_6 := fun h => nv1_6_v1_7 h.symm
    clear hF hD_
    simp only [e_v1_6]
    clear e_v1_6
    simp only [e_v1_7]
    clear e_v1_7
    clear ρ
    have hz_w1 := hk.size
    have X1l := X1.lt
    have X1f := X1.free
    have X1l1 : w.heap.size < w1.heap.size + 1 := by omega
    have X1l2 : w.heap.size < w1.heap.size + 1 + 1 := by omega
    have X1l3 : w.heap.size < w1.heap.size + 1 + 1 + 1 := by omega
    have X10 := X1.cell 0 _ rfl
    have X11 := X1.cell 1 _ rfl
    have X12 := X1.cell 2 _ rfl
    have X13 := X1.cell 3 _ rfl
    have Bv1_6l := Bv1_6.lt
    have Bv1_6f := Bv1_6.free
    have Bv1_6l1 : v1_6 < w1.heap.size + 1 := by omega
    have Bv1_6l2 : v1_6 < w1.heap.size + 1 + 1 := by omega
    have Bv1_6l3 : v1_6 < w1.heap.size + 1 + 1 + 1 := by omega
    have Bv1_60 := Bv1_6.cell 0 _ rfl
    have Bv1_61 := Bv1_6.cell 1 _ rfl
    have Bv1_62 := Bv1_6.cell 2 _ rfl
    have Bv1_63 := Bv1_6.cell 3 _ rfl
    have Bv1_7l := Bv1_7.lt
    have Bv1_7f := Bv1_7.free
    have Bv1_7l1 : v1_7 < w1.heap.size + 1 := by omega
    have Bv1_7l2 : v1_7 < w1.heap.size + 1 + 1 := by omega
    have Bv1_7l3 : v1_7 < w1.heap.size + 1 + 1 + 1 := by omega
    have Bv1_70 := Bv1_7.cell 0 _ rfl
    have Bv1_71 := Bv1_7.cell 1 _ rfl
    have Bv1_72 := Bv1_7.cell 2 _ rfl
    have Bv1_73 := Bv1_7.cell 3 _ rfl
    go_wp2_with fail
    (with_reducible refine (calls_to (V := .tuple #[.agg #[.int .u64 0, .int .u64 0, .int .u64 0, .int .u64 0], .bool false]) (SubW_at (IsWide.of hX) (IsWide.of hX) _) (by rw [HD.out, HB.out])).mono ?_)
    rintro e w2 ⟨rfl, hb⟩
    have X1' : Box w2 (w.heap.size) #[.int .u64 (limb 0 A), .int .u64 (limb 1 A), .int .u64 (limb 2 A), .int .u64 (limb 3 A)] := Box.call hb (by repeat (first | with_reducible assumption | with_reducible apply Box.set10 | with_reducible apply Box.set20 | with_reducible apply Box.set21 | with_reducible apply Box.set40 | with_reducible apply Box.set41 | with_reducible apply Box.set42 | with_reducible apply Box.set43 | with_reducible apply Box.set50 | with_reducible apply Box.set51 | with_reducible apply Box.set52 | with_reducible apply Box.set53 | with_reducible apply Box.set54 | with_reducible apply Box.drew | (with_reducible apply Box.newAt; (try simp only [World.size_alloc, World.size_setCell, World.size_drew]); done) | with_reducible apply Box.alloc | (with_reducible apply Box.other; case hne => ((try simp only [World.size_alloc, World.size_setCell, World.size_drew]); omega))))
    have Bv1_7' : Box w2 (v1_7) #[.int .u64 (limb 0 X), .int .u64 (limb 1 X), .int .u64 (limb 2 X), .int .u64 (limb 3 X)] := Box.call hb (by repeat (first | with_reducible assumption | with_reducible apply Box.set10 | with_reducible apply Box.set20 | with_reducible apply Box.set21 | with_reducible apply Box.set40 | with_reducible apply Box.set41 | with_reducible apply Box.set42 | with_reducible apply Box.set43 | with_reducible apply Box.set50 | with_reducible apply Box.set51 | with_reducible apply Box.set52 | with_reducible apply Box.set53 | with_reducible apply Box.set54 | with_reducible apply Box.drew | (with_reducible apply Box.newAt; (try simp only [World.size_alloc, World.size_setCell, World.size_drew]); done) | with_reducible apply Box.alloc | (with_reducible apply Box.other; case hne => ((try simp only [World.size_alloc, World.size_setCell, World.size_drew]); omega))))
    have hk' : Kept w.heap.size w w2 := Kept.step (by repeat (first | with_reducible exact hk | with_reducible exact Kept.refl _ | with_reducible refine Kept.alloc ?_ _ | with_reducible refine Kept.drew ?_ | with_reducible refine Kept.setCell ?_ (by simp only [World.size_alloc, World.size_setCell, World.size_drew]; omega) _)) hb
    clear hk hb
    clear X1 X1l1 X1l2 X1l3 X1f X10 X11 X12 X13
    clear Bv1_6 Bv1_6l1 Bv1_6l2 Bv1_6l3 Bv1_6f Bv1_60 Bv1_61 Bv1_62 Bv1_63
    clear Bv1_7 Bv1_7l1 Bv1_7l2 Bv1_7l3 Bv1_7f Bv1_70 Bv1_71 Bv1_72 Bv1_73
    have X1 := X1'
    clear X1'
    have Bv1_7 := Bv1_7'
    clear Bv1_7'
    have hk := hk'
    clear hk'
    have hz_w2 := hk.size
    have X1l := X1.lt
    have X1f := X1.free
    have X1l1 : w.heap.size < w2.heap.size + 1 := by omega
    have X1l2 : w.heap.size < w2.heap.size + 1 + 1 := by omega
    have X1l3 : w.heap.size < w2.heap.size + 1 + 1 + 1 := by omega
    have X10 := X1.cell 0 _ rfl
    have X11 := X1.cell 1 _ rfl
    have X12 := X1.cell 2 _ rfl
    have X13 := X1.cell 3 _ rfl
    have Bv1_7l := Bv1_7.lt
    have Bv1_7f := Bv1_7.free
    have Bv1_7l1 : v1_7 < w2.heap.size + 1 := by omega
    have Bv1_7l2 : v1_7 < w2.heap.size + 1 + 1 := by omega
    have Bv1_7l3 : v1_7 < w2.heap.size + 1 + 1 + 1 := by omega
    have Bv1_70 := Bv1_7.cell 0 _ rfl
    have Bv1_71 := Bv1_7.cell 1 _ rfl
    have Bv1_72 := Bv1_7.cell 2 _ rfl
    have Bv1_73 := Bv1_7.cell 3 _ rfl
    go_upto_region 3 with fail
    refine wp_region_p 33 (fun W' => Kept w.heap.size w W' ∧ w2.heap.size + 1 ≤ W'.heap.size ∧ Box W' (w.heap.size) #[.int .u64 (limb 0 A), .int .u64 (limb 1 A), .int .u64 (limb 2 A), .int .u64 (limb 3 A)] ∧ Box W' (v1_7) #[.int .u64 (limb 0 X), .int .u64 (limb 1 X), .int .u64 (limb 2 X), .int .u64 (limb 3 X)] ∧ Box W' (w2.heap.size) #[.int .u64 0, .int .u64 0, .int .u64 0, .int .u64 0]) (fun W' => Kept w.heap.size w W' ∧ w2.heap.size + 1 ≤ W'.heap.size ∧ Box W' (w.heap.size) #[.int .u64 (limb 0 A), .int .u64 (limb 1 A), .int .u64 (limb 2 A), .int .u64 (limb 3 A)] ∧ Box W' (v1_7) #[.int .u64 (limb 0 X), .int .u64 (limb 1 X), .int .u64 (limb 2 X), .int .u64 (limb 3 X)] ∧ Box W' (w2.heap.size) #[.int .u64 0, .int .u64 0, .int .u64 0, .int .u64 0]) 1000 (w2.heap.size + 1) [.known (.bool false), .known (.bool false), .known (.agg #[.int .u64 0, .int .u64 0, .int .u64 0, .int .u64 0]), .known (.agg #[.int .u64 0, .int .u64 0, .int .u64 0, .int .u64 0]), .known (.bool false), .known (.bool false), .known undef, .known undef, .known undef, .known (.bool false), .known (.bool false), .known (.bool false), .known (wideV A), .known (.int .i64 (n)), .known (.bool true), .known (.bool true), .known (.pointer (some ⟨v1_7, 0, none⟩)), .known (.int .u64 (limb 0 X)), .known (.int .u64 1), .known (.bool false), .known (.bool false), .known (.bool false), .known (.bool false), .known (wideV A), .known (.int .i64 (n)), .known (.bool true), .known (.bool false), .known (.bool false), .known undef, .known undef, .known undef, .known (.bool false), .known (.bool false)] (by kernel_rfl) (by kernel_rfl) (fun W W' h hb => ⟨h.1.step hb, Nat.le_trans (h.2.1) hb.size, Box.call hb (h.2.2.1), Box.call hb (h.2.2.2.1), Box.call hb (h.2.2.2.2)⟩) (fun W W' h hb => ⟨h.1.step hb, Nat.le_trans (h.2.1) hb.size, Box.call hb (h.2.2.1), Box.call hb (h.2.2.2.1), Box.call hb (h.2.2.2.2)⟩) (no_out (of_decide_eq_true (by kernel_rfl))) (.inl (by kernel_rfl)) (.inl (by kernel_rfl)) (fun _ h => h.2.1) (fun _ h => h.2.1) (⟨(by repeat (first | with_reducible exact hk | with_reducible exact Kept.refl _ | with_reducible refine Kept.alloc ?_ _ | with_reducible refine Kept.drew ?_ | with_reducible refine Kept.setCell ?_ (by simp only [World.size_alloc, World.size_setCell, World.size_drew]; omega) _)), (by (try simp only [World.size_alloc, World.size_setCell, World.size_drew]); omega), (by repeat (first | with_reducible assumption | with_reducible apply Box.set10 | with_reducible apply Box.set20 | with_reducible apply Box.set21 | with_reducible apply Box.set40 | with_reducible apply Box.set41 | with_reducible apply Box.set42 | with_reducible apply Box.set43 | with_reducible apply Box.set50 | with_reducible apply Box.set51 | with_reducible apply Box.set52 | with_reducible apply Box.set53 | with_reducible apply Box.set54 | with_reducible apply Box.drew | (with_reducible apply Box.newAt; (try simp only [World.size_alloc, World.size_setCell, World.size_drew]); done) | with_reducible apply Box.alloc | (with_reducible apply Box.other; case hne => ((try simp only [World.size_alloc, World.size_setCell, World.size_drew]); omega)))), (by repeat (first | with_reducible assumption | with_reducible apply Box.set10 | with_reducible apply Box.set20 | with_reducible apply Box.set21 | with_reducible apply Box.set40 | with_reducible apply Box.set41 | with_reducible apply Box.set42 | with_reducible apply Box.set43 | with_reducible apply Box.set50 | with_reducible apply Box.set51 | with_reducible apply Box.set52 | with_reducible apply Box.set53 | with_reducible apply Box.set54 | with_reducible apply Box.drew | (with_reducible apply Box.newAt; (try simp only [World.size_alloc, World.size_setCell, World.size_drew]); done) | with_reducible apply Box.alloc | (with_reducible apply Box.other; case hne => ((try simp only [World.size_alloc, World.size_setCell, World.size_drew]); omega)))), (by repeat (first | with_reducible assumption | with_reducible apply Box.set10 | with_reducible apply Box.set20 | with_reducible apply Box.set21 | with_reducible apply Box.set40 | with_reducible apply Box.set41 | with_reducible apply Box.set42 | with_reducible apply Box.set43 | with_reducible apply Box.set50 | with_reducible apply Box.set51 | with_reducible apply Box.set52 | with_reducible apply Box.set53 | with_reducible apply Box.set54 | with_reducible apply Box.drew | (with_reducible apply Box.newAt; (try simp only [World.size_alloc, World.size_setCell, World.size_drew]); done) | with_reducible apply Box.alloc | (with_reducible apply Box.other; case hne => ((try simp only [World.size_alloc, World.size_setCell, World.size_drew]); omega))))⟩) ?_
    clear hk
    clear X1 X1l1 X1l2 X1l3 X1f X10 X11 X12 X13
    clear Bv1_7 Bv1_7l1 Bv1_7l2 Bv1_7l3 Bv1_7f Bv1_70 Bv1_71 Bv1_72 Bv1_73
    intro ρ
    simp only [List.take_succ_cons, List.take_zero, List.drop_succ_cons, List.drop_zero]
    refine ⟨?_, ?_⟩
    · as_aux_lemma =>
      intro y_ hS_ hO_ hD
      clear hS_ hO_ hD
      refine s_gen (V := .bool false) [.bool false] (by kernel_rfl) (by kernel_rfl) (by kernel_rfl) ?_
      intro r_ hr_
      have o0_ : r_ (.tmp 8) = .bool false := op_at hr_ 0 (by kernel_rfl) (by kernel_rfl)
      clear hr_
      go_simp; first | done | with_reducible rfl | omega
    simp only [Act.put, planVG, List.setIfInBounds_toArray, List.set_cons_zero, List.set_cons_succ, List.getElem?_cons_zero, List.getElem?_cons_succ]
    refine ⟨?_, ?_⟩
    · as_aux_lemma =>
      intro y_ hS_ hO_ hD
      clear hS_ hO_ hD
      refine s_gen (V := .bool false) [.bool false] (by kernel_rfl) (by kernel_rfl) (by kernel_rfl) ?_
      intro r_ hr_
      have o0_ : r_ (.tmp 21) = .bool false := op_at hr_ 0 (by kernel_rfl) (by kernel_rfl)
      clear hr_
      go_simp; first | done | with_reducible rfl | omega
    simp only [Act.put, planVG, List.setIfInBounds_toArray, List.set_cons_zero, List.set_cons_succ, List.getElem?_cons_zero, List.getElem?_cons_succ]
    refine ⟨?_, ?_⟩
    · as_aux_lemma =>
      intro y_ hS_ hO_ hD
      have Q := ((hS_ (by rfl)).2.2.2.2).cell
      have q0 := Q 0 _ rfl
      have q1 := Q 1 _ rfl
      have q2 := Q 2 _ rfl
      have q3 := Q 3 _ rfl
      clear Q hS_ hO_ hD
      refine s_gen (V := .agg #[.int .u64 0, .int .u64 0, .int .u64 0, .int .u64 0]) [.pointer (some ⟨w2.heap.size, 0, none⟩)] (by kernel_rfl) (by kernel_rfl) (by kernel_rfl) ?_
      intro r_ hr_
      have o0_ : r_ (.tmp 7) = .pointer (some ⟨w2.heap.size, 0, none⟩) := op_at hr_ 0 (by kernel_rfl) (by kernel_rfl)
      clear hr_
      go_simp; first | done | with_reducible rfl
    simp only [Act.put, planVG, List.setIfInBounds_toArray, List.set_cons_zero, List.set_cons_succ, List.getElem?_cons_zero, List.getElem?_cons_succ]
    refine ⟨?_, ?_⟩
    · as_aux_lemma =>
      intro y_ hS_ hO_ hD
      clear hS_ hO_ hD
      refine s_gen (V := .agg #[.int .u64 0, .int .u64 0, .int .u64 0, .int .u64 0]) [] (by kernel_rfl) (by kernel_rfl) (by kernel_rfl) ?_
      intro r_ hr_
      
      clear hr_
      go_simp; first | done | with_reducible rfl | omega
    simp only [Act.put, planVG, List.setIfInBounds_toArray, List.set_cons_zero, List.set_cons_succ, List.getElem?_cons_zero, List.getElem?_cons_succ]
    refine ⟨?_, ?_⟩
    · as_aux_lemma =>
      intro y_ hS_ hO_ hD
      clear hS_ hO_ hD
      refine s_gen (V := .bool false) [.agg #[.int .u64 0, .int .u64 0, .int .u64 0, .int .u64 0], .agg #[.int .u64 0, .int .u64 0, .int .u64 0, .int .u64 0]] (by kernel_rfl) (by kernel_rfl) (by kernel_rfl) ?_
      intro r_ hr_
      have o0_ : r_ (.tmp 23) = .agg #[.int .u64 0, .int .u64 0, .int .u64 0, .int .u64 0] := op_at hr_ 0 (by kernel_rfl) (by kernel_rfl)
      have o1_ : r_ (.tmp 24) = .agg #[.int .u64 0, .int .u64 0, .int .u64 0, .int .u64 0] := op_at hr_ 1 (by kernel_rfl) (by kernel_rfl)
      clear hr_
      go_simp; first | done | with_reducible rfl | omega
    simp only [Act.put, planVG, List.setIfInBounds_toArray, List.set_cons_zero, List.set_cons_succ, List.getElem?_cons_zero, List.getElem?_cons_succ]
    refine ⟨?_, ?_⟩
    · as_aux_lemma =>
      intro y_ hS_ hO_ hD
      clear hS_ hO_ hD
      refine s_gen (V := .bool false) [.bool false] (by kernel_rfl) (by kernel_rfl) (by kernel_rfl) ?_
      intro r_ hr_
      have o0_ : r_ (.tmp 25) = .bool false := op_at hr_ 0 (by kernel_rfl) (by kernel_rfl)
      clear hr_
      go_simp; first | done | with_reducible rfl | omega
    simp only [Act.put, planVG, List.setIfInBounds_toArray, List.set_cons_zero, List.set_cons_succ, List.getElem?_cons_zero, List.getElem?_cons_succ]
    refine ⟨?_, ?_⟩
    · as_aux_lemma =>
      intro y_ hS_ hO_ hD
      exact s_skip (by rfl) (by rfl)
    simp only [Act.put, planVG, List.setIfInBounds_toArray, List.set_cons_zero, List.set_cons_succ, List.getElem?_cons_zero, List.getElem?_cons_succ]
    refine ⟨?_, ?_⟩
    · as_aux_lemma =>
      intro y_ hS_ hO_ hD
      exact s_skip (by rfl) (by rfl)
    simp only [Act.put, planVG, List.setIfInBounds_toArray, List.set_cons_zero, List.set_cons_succ, List.getElem?_cons_zero, List.getElem?_cons_succ]
    refine ⟨?_, ?_⟩
    · as_aux_lemma =>
      intro y_ hS_ hO_ hD
      exact s_skip (by rfl) (by rfl)
    simp only [Act.put, planVG, List.setIfInBounds_toArray, List.set_cons_zero, List.set_cons_succ, List.getElem?_cons_zero, List.getElem?_cons_succ]
    refine ⟨?_, ?_⟩
    · as_aux_lemma =>
      intro y_ hS_ hO_ hD
      clear hS_ hO_ hD
      refine s_gen (V := .bool false) [.bool false, undef, .bool false] (by kernel_rfl) (by kernel_rfl) (by kernel_rfl) ?_
      intro r_ hr_
      have o0_ : r_ (.tmp 26) = .bool false := op_at hr_ 0 (by kernel_rfl) (by kernel_rfl)
      have o1_ : r_ (.tmp 29) = undef := op_at hr_ 1 (by kernel_rfl) (by kernel_rfl)
      have o2_ : r_ (.const (.bool false)) = .bool false := op_at hr_ 2 (by kernel_rfl) (by kernel_rfl)
      clear hr_
      go_simp; first | done | with_reducible rfl | omega
    simp only [Act.put, planVG, List.setIfInBounds_toArray, List.set_cons_zero, List.set_cons_succ, List.getElem?_cons_zero, List.getElem?_cons_succ]
    refine ⟨?_, ?_⟩
    · as_aux_lemma =>
      intro y_ hS_ hO_ hD
      clear hS_ hO_ hD
      refine s_gen (V := .bool false) [.bool false, .bool true, .bool false] (by kernel_rfl) (by kernel_rfl) (by kernel_rfl) ?_
      intro r_ hr_
      have o0_ : r_ (.tmp 22) = .bool false := op_at hr_ 0 (by kernel_rfl) (by kernel_rfl)
      have o1_ : r_ (.const (.bool true)) = .bool true := op_at hr_ 1 (by kernel_rfl) (by kernel_rfl)
      have o2_ : r_ (.tmp 30) = .bool false := op_at hr_ 2 (by kernel_rfl) (by kernel_rfl)
      clear hr_
      go_simp; first | done | with_reducible rfl | omega
    simp only [Act.put, planVG, List.setIfInBounds_toArray, List.set_cons_zero, List.set_cons_succ, List.getElem?_cons_zero, List.getElem?_cons_succ]
    refine ⟨?_, ?_⟩
    · as_aux_lemma =>
      intro y_ hS_ hO_ hD
      clear hS_ hO_ hD
      refine s_gen (V := .bool false) [.bool false] (by kernel_rfl) (by kernel_rfl) (by kernel_rfl) ?_
      intro r_ hr_
      have o0_ : r_ (.tmp 31) = .bool false := op_at hr_ 0 (by kernel_rfl) (by kernel_rfl)
      clear hr_
      go_simp; first | done | with_reducible rfl | omega
    simp only [Act.put, planVG, List.setIfInBounds_toArray, List.set_cons_zero, List.set_cons_succ, List.getElem?_cons_zero, List.getElem?_cons_succ]
    refine ⟨?_, ?_⟩
    · as_aux_lemma =>
      intro y_ hS_ hO_ hD
      have Q := ((hS_ (by rfl)).2.2.1).cell
      have q0 := Q 0 _ rfl
      have q1 := Q 1 _ rfl
      have q2 := Q 2 _ rfl
      have q3 := Q 3 _ rfl
      clear Q hS_ hO_ hD
      refine s_gen (V := wideV A) [.pointer (some ⟨w.heap.size, 0, none⟩)] (by kernel_rfl) (by kernel_rfl) (by kernel_rfl) ?_
      intro r_ hr_
      have o0_ : r_ (.tmp 2) = .pointer (some ⟨w.heap.size, 0, none⟩) := op_at hr_ 0 (by kernel_rfl) (by kernel_rfl)
      clear hr_
      go_simp; first | done | with_reducible rfl
    simp only [Act.put, planVG, List.setIfInBounds_toArray, List.set_cons_zero, List.set_cons_succ, List.getElem?_cons_zero, List.getElem?_cons_succ]
    refine ⟨?_, ?_⟩
    · as_aux_lemma =>
      intro y_ hS_ hO_ hD
      clear hS_ hO_ hD
      refine s_gen (V := .int .i64 (n)) [.int .i64 (n)] (by kernel_rfl) (by kernel_rfl) (by kernel_rfl) ?_
      intro r_ hr_
      have o0_ : r_ (.tmp 1) = .int .i64 (n) := op_at hr_ 0 (by kernel_rfl) (by kernel_rfl)
      clear hr_
      go_simp; first | done | with_reducible rfl | omega
    simp only [Act.put, planVG, List.setIfInBounds_toArray, List.set_cons_zero, List.set_cons_succ, List.getElem?_cons_zero, List.getElem?_cons_succ]
    refine ⟨?_, ?_⟩
    · as_aux_lemma =>
      intro y_ hS_ hO_ hD
      try clear hS
      clear hS_ hO_ hD
      refine s_gcall (V := .bool true) [.func (.func 24) #[] #[], wideV A, .int .i64 (n)] ?_ ?_ (by kernel_rfl) (by kernel_rfl) (by kernel_rfl) ?_ ?_
      rotate_left 2
      · intro r_ hr_
        have o0_ : r_ (.func 24) = .func (.func 24) #[] #[] := op_at hr_ 0 (by kernel_rfl) (by kernel_rfl)
        have o1_ : r_ (.tmp 33) = wideV A := op_at hr_ 1 (by kernel_rfl) (by kernel_rfl)
        have o2_ : r_ (.tmp 34) = .int .i64 (n) := op_at hr_ 2 (by kernel_rfl) (by kernel_rfl)
        clear hr_
        go_simp; first | done | with_reducible rfl | (constructor <;> with_reducible rfl)
      · refine calls_to (V := .bool true) (Lost_at (IsWide.of hA) n (by omega) (by omega) _) (by rw [HL.out])
    simp only [Act.put, planVG, List.setIfInBounds_toArray, List.set_cons_zero, List.set_cons_succ, List.getElem?_cons_zero, List.getElem?_cons_succ]
    refine ⟨?_, ?_⟩
    · as_aux_lemma =>
      intro y_ hS_ hO_ hD
      clear hS_ hO_ hD
      refine s_gen (V := .bool true) [.bool true] (by kernel_rfl) (by kernel_rfl) (by kernel_rfl) ?_
      intro r_ hr_
      have o0_ : r_ (.tmp 35) = .bool true := op_at hr_ 0 (by kernel_rfl) (by kernel_rfl)
      clear hr_
      go_simp; first | done | with_reducible rfl | omega
    simp only [Act.put, planVG, List.setIfInBounds_toArray, List.set_cons_zero, List.set_cons_succ, List.getElem?_cons_zero, List.getElem?_cons_succ]
    refine ⟨?_, ?_⟩
    · as_aux_lemma =>
      intro y_ hS_ hO_ hD
      clear hS_ hO_ hD
      refine s_gen (V := .pointer (some ⟨v1_7, 0, none⟩)) [.pointer (some ⟨v1_7, 0, none⟩), .int .i64 0] (by kernel_rfl) (by kernel_rfl) (by kernel_rfl) ?_
      intro r_ hr_
      have o0_ : r_ (.tmp 6) = .pointer (some ⟨v1_7, 0, none⟩) := op_at hr_ 0 (by kernel_rfl) (by kernel_rfl)
      have o1_ : r_ (.const (.int .i64 0)) = .int .i64 0 := op_at hr_ 1 (by kernel_rfl) (by kernel_rfl)
      clear hr_
      go_simp; first | done | with_reducible rfl | omega
    simp only [Act.put, planVG, List.setIfInBounds_toArray, List.set_cons_zero, List.set_cons_succ, List.getElem?_cons_zero, List.getElem?_cons_succ]
    refine ⟨?_, ?_⟩
    · as_aux_lemma =>
      intro y_ hS_ hO_ hD
      have Q := ((hS_ (by rfl)).2.2.2.1).cell
      have q0 := Q 0 _ rfl
      have q1 := Q 1 _ rfl
      have q2 := Q 2 _ rfl
      have q3 := Q 3 _ rfl
      clear Q hS_ hO_ hD
      refine s_gen (V := .int .u64 (limb 0 X)) [.pointer (some ⟨v1_7, 0, none⟩)] (by kernel_rfl) (by kernel_rfl) (by kernel_rfl) ?_
      intro r_ hr_
      have o0_ : r_ (.tmp 37) = .pointer (some ⟨v1_7, 0, none⟩) := op_at hr_ 0 (by kernel_rfl) (by kernel_rfl)
      clear hr_
      go_simp; first | done | with_reducible rfl
    simp only [Act.put, planVG, List.setIfInBounds_toArray, List.set_cons_zero, List.set_cons_succ, List.getElem?_cons_zero, List.getElem?_cons_succ]
    refine ⟨?_, ?_⟩
    · as_aux_lemma =>
      intro y_ hS_ hO_ hD
      clear hS_ hO_ hD
      refine s_gen (V := .int .u64 1) [.int .u64 (limb 0 X), .int .u64 1] (by kernel_rfl) (by kernel_rfl) (by kernel_rfl) ?_
      intro r_ hr_
      have o0_ : r_ (.tmp 38) = .int .u64 (limb 0 X) := op_at hr_ 0 (by kernel_rfl) (by kernel_rfl)
      have o1_ : r_ (.const (.int .u64 1)) = .int .u64 1 := op_at hr_ 1 (by kernel_rfl) (by kernel_rfl)
      clear hr_
      go_simp; first | done | with_reducible rfl | omega
    simp only [Act.put, planVG, List.setIfInBounds_toArray, List.set_cons_zero, List.set_cons_succ, List.getElem?_cons_zero, List.getElem?_cons_succ]
    refine ⟨?_, ?_⟩
    · as_aux_lemma =>
      intro y_ hS_ hO_ hD
      clear hS_ hO_ hD
      refine s_gen (V := .bool false) [.int .u64 1, .int .u64 1] (by kernel_rfl) (by kernel_rfl) (by kernel_rfl) ?_
      intro r_ hr_
      have o0_ : r_ (.tmp 39) = .int .u64 1 := op_at hr_ 0 (by kernel_rfl) (by kernel_rfl)
      have o1_ : r_ (.const (.int .u64 1)) = .int .u64 1 := op_at hr_ 1 (by kernel_rfl) (by kernel_rfl)
      clear hr_
      go_simp; first | done | with_reducible rfl | omega
    simp only [Act.put, planVG, List.setIfInBounds_toArray, List.set_cons_zero, List.set_cons_succ, List.getElem?_cons_zero, List.getElem?_cons_succ]
    refine ⟨?_, ?_⟩
    · as_aux_lemma =>
      intro y_ hS_ hO_ hD
      clear hS_ hO_ hD
      refine s_gen (V := .bool false) [.bool true, .bool false, .bool false] (by kernel_rfl) (by kernel_rfl) (by kernel_rfl) ?_
      intro r_ hr_
      have o0_ : r_ (.tmp 36) = .bool true := op_at hr_ 0 (by kernel_rfl) (by kernel_rfl)
      have o1_ : r_ (.tmp 40) = .bool false := op_at hr_ 1 (by kernel_rfl) (by kernel_rfl)
      have o2_ : r_ (.const (.bool false)) = .bool false := op_at hr_ 2 (by kernel_rfl) (by kernel_rfl)
      clear hr_
      go_simp; first | done | with_reducible rfl | omega
    simp only [Act.put, planVG, List.setIfInBounds_toArray, List.set_cons_zero, List.set_cons_succ, List.getElem?_cons_zero, List.getElem?_cons_succ]
    refine ⟨?_, ?_⟩
    · as_aux_lemma =>
      intro y_ hS_ hO_ hD
      clear hS_ hO_ hD
      refine s_gen (V := .bool false) [.bool false, .bool true, .bool false] (by kernel_rfl) (by kernel_rfl) (by kernel_rfl) ?_
      intro r_ hr_
      have o0_ : r_ (.tmp 32) = .bool false := op_at hr_ 0 (by kernel_rfl) (by kernel_rfl)
      have o1_ : r_ (.const (.bool true)) = .bool true := op_at hr_ 1 (by kernel_rfl) (by kernel_rfl)
      have o2_ : r_ (.tmp 41) = .bool false := op_at hr_ 2 (by kernel_rfl) (by kernel_rfl)
      clear hr_
      go_simp; first | done | with_reducible rfl | omega
    simp only [Act.put, planVG, List.setIfInBounds_toArray, List.set_cons_zero, List.set_cons_succ, List.getElem?_cons_zero, List.getElem?_cons_succ]
    refine ⟨?_, ?_⟩
    · as_aux_lemma =>
      intro y_ hS_ hO_ hD
      clear hS_ hO_ hD
      refine s_gen (V := .bool false) [.bool false] (by kernel_rfl) (by kernel_rfl) (by kernel_rfl) ?_
      intro r_ hr_
      have o0_ : r_ (.tmp 42) = .bool false := op_at hr_ 0 (by kernel_rfl) (by kernel_rfl)
      clear hr_
      go_simp; first | done | with_reducible rfl | omega
    simp only [Act.put, planVG, List.setIfInBounds_toArray, List.set_cons_zero, List.set_cons_succ, List.getElem?_cons_zero, List.getElem?_cons_succ]
    refine ⟨?_, ?_⟩
    · as_aux_lemma =>
      intro y_ hS_ hO_ hD
      have Q := ((hS_ (by rfl)).2.2.1).cell
      have q0 := Q 0 _ rfl
      have q1 := Q 1 _ rfl
      have q2 := Q 2 _ rfl
      have q3 := Q 3 _ rfl
      clear Q hS_ hO_ hD
      refine s_gen (V := wideV A) [.pointer (some ⟨w.heap.size, 0, none⟩)] (by kernel_rfl) (by kernel_rfl) (by kernel_rfl) ?_
      intro r_ hr_
      have o0_ : r_ (.tmp 2) = .pointer (some ⟨w.heap.size, 0, none⟩) := op_at hr_ 0 (by kernel_rfl) (by kernel_rfl)
      clear hr_
      go_simp; first | done | with_reducible rfl
    simp only [Act.put, planVG, List.setIfInBounds_toArray, List.set_cons_zero, List.set_cons_succ, List.getElem?_cons_zero, List.getElem?_cons_succ]
    refine ⟨?_, ?_⟩
    · as_aux_lemma =>
      intro y_ hS_ hO_ hD
      clear hS_ hO_ hD
      refine s_gen (V := .int .i64 (n)) [.int .i64 (n)] (by kernel_rfl) (by kernel_rfl) (by kernel_rfl) ?_
      intro r_ hr_
      have o0_ : r_ (.tmp 1) = .int .i64 (n) := op_at hr_ 0 (by kernel_rfl) (by kernel_rfl)
      clear hr_
      go_simp; first | done | with_reducible rfl | omega
    simp only [Act.put, planVG, List.setIfInBounds_toArray, List.set_cons_zero, List.set_cons_succ, List.getElem?_cons_zero, List.getElem?_cons_succ]
    refine ⟨?_, ?_⟩
    · as_aux_lemma =>
      intro y_ hS_ hO_ hD
      try clear hS
      clear hS_ hO_ hD
      refine s_gcall (V := .bool true) [.func (.func 24) #[] #[], wideV A, .int .i64 (n)] ?_ ?_ (by kernel_rfl) (by kernel_rfl) (by kernel_rfl) ?_ ?_
      rotate_left 2
      · intro r_ hr_
        have o0_ : r_ (.func 24) = .func (.func 24) #[] #[] := op_at hr_ 0 (by kernel_rfl) (by kernel_rfl)
        have o1_ : r_ (.tmp 44) = wideV A := op_at hr_ 1 (by kernel_rfl) (by kernel_rfl)
        have o2_ : r_ (.tmp 45) = .int .i64 (n) := op_at hr_ 2 (by kernel_rfl) (by kernel_rfl)
        clear hr_
        go_simp; first | done | with_reducible rfl | (constructor <;> with_reducible rfl)
      · refine calls_to (V := .bool true) (Lost_at (IsWide.of hA) n (by omega) (by omega) _) (by rw [HL.out])
    simp only [Act.put, planVG, List.setIfInBounds_toArray, List.set_cons_zero, List.set_cons_succ, List.getElem?_cons_zero, List.getElem?_cons_succ]
    refine ⟨?_, ?_⟩
    · as_aux_lemma =>
      intro y_ hS_ hO_ hD
      clear hS_ hO_ hD
      refine s_gen (V := .bool false) [.bool true] (by kernel_rfl) (by kernel_rfl) (by kernel_rfl) ?_
      intro r_ hr_
      have o0_ : r_ (.tmp 46) = .bool true := op_at hr_ 0 (by kernel_rfl) (by kernel_rfl)
      clear hr_
      go_simp; first | done | with_reducible rfl | omega
    simp only [Act.put, planVG, List.setIfInBounds_toArray, List.set_cons_zero, List.set_cons_succ, List.getElem?_cons_zero, List.getElem?_cons_succ]
    refine ⟨?_, ?_⟩
    · as_aux_lemma =>
      intro y_ hS_ hO_ hD
      clear hS_ hO_ hD
      refine s_gen (V := .bool false) [.bool false] (by kernel_rfl) (by kernel_rfl) (by kernel_rfl) ?_
      intro r_ hr_
      have o0_ : r_ (.tmp 47) = .bool false := op_at hr_ 0 (by kernel_rfl) (by kernel_rfl)
      clear hr_
      go_simp; first | done | with_reducible rfl | omega
    simp only [Act.put, planVG, List.setIfInBounds_toArray, List.set_cons_zero, List.set_cons_succ, List.getElem?_cons_zero, List.getElem?_cons_succ]
    refine ⟨?_, ?_⟩
    · as_aux_lemma =>
      intro y_ hS_ hO_ hD
      exact s_skip (by rfl) (by rfl)
    simp only [Act.put, planVG, List.setIfInBounds_toArray, List.set_cons_zero, List.set_cons_succ, List.getElem?_cons_zero, List.getElem?_cons_succ]
    refine ⟨?_, ?_⟩
    · as_aux_lemma =>
      intro y_ hS_ hO_ hD
      exact s_skip (by rfl) (by rfl)
    simp only [Act.put, planVG, List.setIfInBounds_toArray, List.set_cons_zero, List.set_cons_succ, List.getElem?_cons_zero, List.getElem?_cons_succ]
    refine ⟨?_, ?_⟩
    · as_aux_lemma =>
      intro y_ hS_ hO_ hD
      exact s_skip (by rfl) (by rfl)
    simp only [Act.put, planVG, List.setIfInBounds_toArray, List.set_cons_zero, List.set_cons_succ, List.getElem?_cons_zero, List.getElem?_cons_succ]
    refine ⟨?_, ?_⟩
    · as_aux_lemma =>
      intro y_ hS_ hO_ hD
      clear hS_ hO_ hD
      refine s_gen (V := .bool false) [.bool false, undef, .bool false] (by kernel_rfl) (by kernel_rfl) (by kernel_rfl) ?_
      intro r_ hr_
      have o0_ : r_ (.tmp 48) = .bool false := op_at hr_ 0 (by kernel_rfl) (by kernel_rfl)
      have o1_ : r_ (.tmp 51) = undef := op_at hr_ 1 (by kernel_rfl) (by kernel_rfl)
      have o2_ : r_ (.const (.bool false)) = .bool false := op_at hr_ 2 (by kernel_rfl) (by kernel_rfl)
      clear hr_
      go_simp; first | done | with_reducible rfl | omega
    simp only [Act.put, planVG, List.setIfInBounds_toArray, List.set_cons_zero, List.set_cons_succ, List.getElem?_cons_zero, List.getElem?_cons_succ]
    refine ⟨?_, ?_⟩
    · as_aux_lemma =>
      intro y_ hS_ hO_ hD
      clear hS_ hO_ hD
      refine s_gen (V := .bool false) [.bool false, .bool true, .bool false] (by kernel_rfl) (by kernel_rfl) (by kernel_rfl) ?_
      intro r_ hr_
      have o0_ : r_ (.tmp 43) = .bool false := op_at hr_ 0 (by kernel_rfl) (by kernel_rfl)
      have o1_ : r_ (.const (.bool true)) = .bool true := op_at hr_ 1 (by kernel_rfl) (by kernel_rfl)
      have o2_ : r_ (.tmp 52) = .bool false := op_at hr_ 2 (by kernel_rfl) (by kernel_rfl)
      clear hr_
      go_simp; first | done | with_reducible rfl | omega
    simp only [Act.put, planVG, List.setIfInBounds_toArray, List.set_cons_zero, List.set_cons_succ, List.getElem?_cons_zero, List.getElem?_cons_succ]
    as_aux_lemma =>
      intro w3 hS hF hD_
      change wpList _ _ _ _ _ _
      replace hS := sg_no (by decide) hS
      obtain ⟨hk, hZ3, X1, Bv1_7, X2⟩ := hS
      clear hF hD_
      clear ρ
      have hz_w3 := hk.size
      have X1l := X1.lt
      have X1f := X1.free
      have X1l1 : w.heap.size < w3.heap.size + 1 := by omega
      have X1l2 : w.heap.size < w3.heap.size + 1 + 1 := by omega
      have X1l3 : w.heap.size < w3.heap.size + 1 + 1 + 1 := by omega
      have X10 := X1.cell 0 _ rfl
      have X11 := X1.cell 1 _ rfl
      have X12 := X1.cell 2 _ rfl
      have X13 := X1.cell 3 _ rfl
      have Bv1_7l := Bv1_7.lt
      have Bv1_7f := Bv1_7.free
      have Bv1_7l1 : v1_7 < w3.heap.size + 1 := by omega
      have Bv1_7l2 : v1_7 < w3.heap.size + 1 + 1 := by omega
      have Bv1_7l3 : v1_7 < w3.heap.size + 1 + 1 + 1 := by omega
      have Bv1_70 := Bv1_7.cell 0 _ rfl
      have Bv1_71 := Bv1_7.cell 1 _ rfl
      have Bv1_72 := Bv1_7.cell 2 _ rfl
      have Bv1_73 := Bv1_7.cell 3 _ rfl
      have X2l := X2.lt
      have X2f := X2.free
      have X2l1 : w2.heap.size < w3.heap.size + 1 := by omega
      have X2l2 : w2.heap.size < w3.heap.size + 1 + 1 := by omega
      have X2l3 : w2.heap.size < w3.heap.size + 1 + 1 + 1 := by omega
      have X20 := X2.cell 0 _ rfl
      have X21 := X2.cell 1 _ rfl
      have X22 := X2.cell 2 _ rfl
      have X23 := X2.cell 3 _ rfl
      go_wp2
      refine wp_region_g 11 (fun W' => Kept w.heap.size w W' ∧ w3.heap.size ≤ W'.heap.size ∧ Box W' (w.heap.size) #[.int .u64 (limb 0 A), .int .u64 (limb 1 A), .int .u64 (limb 2 A), .int .u64 (limb 3 A)] ∧ Box W' (v1_7) #[.int .u64 (limb 0 X), .int .u64 (limb 1 X), .int .u64 (limb 2 X), .int .u64 (limb 3 X)]) (fun W' => Kept w.heap.size w W' ∧ w3.heap.size ≤ W'.heap.size ∧ Box W' (w.heap.size) #[.int .u64 (limb 0 A), .int .u64 (limb 1 A), .int .u64 (limb 2 A), .int .u64 (limb 3 A)] ∧ Box W' (v1_7) #[.int .u64 (limb 0 X), .int .u64 (limb 1 X), .int .u64 (limb 2 X), .int .u64 (limb 3 X)]) 1000 (w3.heap.size) [.known (wideV X), .known (.agg #[.int .u64 0, .int .u64 0, .int .u64 0, .int .u64 0]), .known (.bool false), .known (wideV A), .known (.agg #[.int .u64 0, .int .u64 0, .int .u64 0, .int .u64 0]), .known (.bool false), .known (.bool true), .known (.bool true), .known (.bool true), .known (.bool true), .known (.bool true)] (by kernel_rfl) (by kernel_rfl) (fun W W' h hb => ⟨h.1.step hb, Nat.le_trans (h.2.1) hb.size, Box.call hb (h.2.2.1), Box.call hb (h.2.2.2)⟩) (fun W W' h hb => ⟨h.1.step hb, Nat.le_trans (h.2.1) hb.size, Box.call hb (h.2.2.1), Box.call hb (h.2.2.2)⟩) (no_out (of_decide_eq_true (by kernel_rfl))) (.inl (by kernel_rfl)) (.inl (by kernel_rfl)) (fun _ h => h.2.1) (fun _ h => h.2.1) (⟨(by repeat (first | with_reducible exact hk | with_reducible exact Kept.refl _ | with_reducible refine Kept.alloc ?_ _ | with_reducible refine Kept.drew ?_ | with_reducible refine Kept.setCell ?_ (by simp only [World.size_alloc, World.size_setCell, World.size_drew]; omega) _)), (by (try simp only [World.size_alloc, World.size_setCell, World.size_drew]); omega), (by repeat (first | with_reducible assumption | with_reducible apply Box.set10 | with_reducible apply Box.set20 | with_reducible apply Box.set21 | with_reducible apply Box.set40 | with_reducible apply Box.set41 | with_reducible apply Box.set42 | with_reducible apply Box.set43 | with_reducible apply Box.set50 | with_reducible apply Box.set51 | with_reducible apply Box.set52 | with_reducible apply Box.set53 | with_reducible apply Box.set54 | with_reducible apply Box.drew | (with_reducible apply Box.newAt; (try simp only [World.size_alloc, World.size_setCell, World.size_drew]); done) | with_reducible apply Box.alloc | (with_reducible apply Box.other; case hne => ((try simp only [World.size_alloc, World.size_setCell, World.size_drew]); omega)))), (by repeat (first | with_reducible assumption | with_reducible apply Box.set10 | with_reducible apply Box.set20 | with_reducible apply Box.set21 | with_reducible apply Box.set40 | with_reducible apply Box.set41 | with_reducible apply Box.set42 | with_reducible apply Box.set43 | with_reducible apply Box.set50 | with_reducible apply Box.set51 | with_reducible apply Box.set52 | with_reducible apply Box.set53 | with_reducible apply Box.set54 | with_reducible apply Box.drew | (with_reducible apply Box.newAt; (try simp only [World.size_alloc, World.size_setCell, World.size_drew]); done) | with_reducible apply Box.alloc | (with_reducible apply Box.other; case hne => ((try simp only [World.size_alloc, World.size_setCell, World.size_drew]); omega))))⟩) ?_
      clear hk
      clear X1 X1l1 X1l2 X1l3 X1f X10 X11 X12 X13
      clear Bv1_7 Bv1_7l1 Bv1_7l2 Bv1_7l3 Bv1_7f Bv1_70 Bv1_71 Bv1_72 Bv1_73
      clear X2 X2l1 X2l2 X2l3 X2f X20 X21 X22 X23
      intro ρ
      simp only [List.take_succ_cons, List.take_zero, List.drop_succ_cons, List.drop_zero]
      refine ⟨?_, ?_⟩
      · as_aux_lemma =>
        intro y_ hS_ hO_ hD
        have Q := ((hS_ (by rfl)).2.2.2).cell
        have q0 := Q 0 _ rfl
        have q1 := Q 1 _ rfl
        have q2 := Q 2 _ rfl
        have q3 := Q 3 _ rfl
        clear Q hS_ hO_ hD
        refine s_gen (V := wideV X) [.pointer (some ⟨v1_7, 0, none⟩)] (by kernel_rfl) (by kernel_rfl) (by kernel_rfl) ?_
        intro r_ hr_
        have o0_ : r_ (.tmp 6) = .pointer (some ⟨v1_7, 0, none⟩) := op_at hr_ 0 (by kernel_rfl) (by kernel_rfl)
        clear hr_
        go_simp; first | done | with_reducible rfl
      simp only [Act.put, planVG, List.setIfInBounds_toArray, List.set_cons_zero, List.set_cons_succ, List.getElem?_cons_zero, List.getElem?_cons_succ]
      refine ⟨?_, ?_⟩
      · as_aux_lemma =>
        intro y_ hS_ hO_ hD
        clear hS_ hO_ hD
        refine s_gen (V := .agg #[.int .u64 0, .int .u64 0, .int .u64 0, .int .u64 0]) [] (by kernel_rfl) (by kernel_rfl) (by kernel_rfl) ?_
        intro r_ hr_
        
        clear hr_
        go_simp; first | done | with_reducible rfl | omega
      simp only [Act.put, planVG, List.setIfInBounds_toArray, List.set_cons_zero, List.set_cons_succ, List.getElem?_cons_zero, List.getElem?_cons_succ]
      refine ⟨?_, ?_⟩
      · as_aux_lemma =>
        intro y_ hS_ hO_ hD
        clear hS_ hO_ hD
        refine s_gen (V := .bool false) [wideV X, .agg #[.int .u64 0, .int .u64 0, .int .u64 0, .int .u64 0]] (by kernel_rfl) (by kernel_rfl) (by kernel_rfl) ?_
        intro r_ hr_
        have o0_ : r_ (.tmp 54) = wideV X := op_at hr_ 0 (by kernel_rfl) (by kernel_rfl)
        have o1_ : r_ (.tmp 55) = .agg #[.int .u64 0, .int .u64 0, .int .u64 0, .int .u64 0] := op_at hr_ 1 (by kernel_rfl) (by kernel_rfl)
        clear hr_
        go_simp; first | done | with_reducible rfl | omega
      simp only [Act.put, planVG, List.setIfInBounds_toArray, List.set_cons_zero, List.set_cons_succ, List.getElem?_cons_zero, List.getElem?_cons_succ]
      refine ⟨?_, ?_⟩
      · as_aux_lemma =>
        intro y_ hS_ hO_ hD
        have Q := ((hS_ (by rfl)).2.2.1).cell
        have q0 := Q 0 _ rfl
        have q1 := Q 1 _ rfl
        have q2 := Q 2 _ rfl
        have q3 := Q 3 _ rfl
        clear Q hS_ hO_ hD
        refine s_gen (V := wideV A) [.pointer (some ⟨w.heap.size, 0, none⟩)] (by kernel_rfl) (by kernel_rfl) (by kernel_rfl) ?_
        intro r_ hr_
        have o0_ : r_ (.tmp 2) = .pointer (some ⟨w.heap.size, 0, none⟩) := op_at hr_ 0 (by kernel_rfl) (by kernel_rfl)
        clear hr_
        go_simp; first | done | with_reducible rfl
      simp only [Act.put, planVG, List.setIfInBounds_toArray, List.set_cons_zero, List.set_cons_succ, List.getElem?_cons_zero, List.getElem?_cons_succ]
      refine ⟨?_, ?_⟩
      · as_aux_lemma =>
        intro y_ hS_ hO_ hD
        clear hS_ hO_ hD
        refine s_gen (V := .agg #[.int .u64 0, .int .u64 0, .int .u64 0, .int .u64 0]) [] (by kernel_rfl) (by kernel_rfl) (by kernel_rfl) ?_
        intro r_ hr_
        
        clear hr_
        go_simp; first | done | with_reducible rfl | omega
      simp only [Act.put, planVG, List.setIfInBounds_toArray, List.set_cons_zero, List.set_cons_succ, List.getElem?_cons_zero, List.getElem?_cons_succ]
      refine ⟨?_, ?_⟩
      · as_aux_lemma =>
        intro y_ hS_ hO_ hD
        clear hS_ hO_ hD
        refine s_gen (V := .bool false) [wideV A, .agg #[.int .u64 0, .int .u64 0, .int .u64 0, .int .u64 0]] (by kernel_rfl) (by kernel_rfl) (by kernel_rfl) ?_
        intro r_ hr_
        have o0_ : r_ (.tmp 57) = wideV A := op_at hr_ 0 (by kernel_rfl) (by kernel_rfl)
        have o1_ : r_ (.tmp 58) = .agg #[.int .u64 0, .int .u64 0, .int .u64 0, .int .u64 0] := op_at hr_ 1 (by kernel_rfl) (by kernel_rfl)
        clear hr_
        go_simp; first | done | with_reducible rfl | omega
      simp only [Act.put, planVG, List.setIfInBounds_toArray, List.set_cons_zero, List.set_cons_succ, List.getElem?_cons_zero, List.getElem?_cons_succ]
      refine ⟨?_, ?_⟩
      · as_aux_lemma =>
        intro y_ hS_ hO_ hD
        clear hS_ hO_ hD
        refine s_gen (V := .bool true) [.bool false, .bool false] (by kernel_rfl) (by kernel_rfl) (by kernel_rfl) ?_
        intro r_ hr_
        have o0_ : r_ (.tmp 56) = .bool false := op_at hr_ 0 (by kernel_rfl) (by kernel_rfl)
        have o1_ : r_ (.tmp 59) = .bool false := op_at hr_ 1 (by kernel_rfl) (by kernel_rfl)
        clear hr_
        go_simp; first | done | with_reducible rfl | omega
      simp only [Act.put, planVG, List.setIfInBounds_toArray, List.set_cons_zero, List.set_cons_succ, List.getElem?_cons_zero, List.getElem?_cons_succ]
      refine ⟨?_, ?_⟩
      · as_aux_lemma =>
        intro y_ hS_ hO_ hD
        clear hS_ hO_ hD
        refine s_gen (V := .bool true) [.bool true] (by kernel_rfl) (by kernel_rfl) (by kernel_rfl) ?_
        intro r_ hr_
        have o0_ : r_ (.tmp 60) = .bool true := op_at hr_ 0 (by kernel_rfl) (by kernel_rfl)
        clear hr_
        go_simp; first | done | with_reducible rfl | omega
      simp only [Act.put, planVG, List.setIfInBounds_toArray, List.set_cons_zero, List.set_cons_succ, List.getElem?_cons_zero, List.getElem?_cons_succ]
      refine ⟨?_, ?_⟩
      · as_aux_lemma =>
        intro y_ hS_ hO_ hD
        try clear hS
        clear hS_ hO_ hD
        refine s_gcall (V := .bool true) [.func (.func 18) #[] #[]] ?_ ?_ (by kernel_rfl) (by kernel_rfl) (by kernel_rfl) ?_ ?_
        rotate_left 2
        · intro r_ hr_
          have o0_ : r_ (.func 18) = .func (.func 18) #[] #[] := op_at hr_ 0 (by kernel_rfl) (by kernel_rfl)
          clear hr_
          go_simp; first | done | with_reducible rfl | (constructor <;> with_reducible rfl)
        · refine goes03_any _
      simp only [Act.put, planVG, List.setIfInBounds_toArray, List.set_cons_zero, List.set_cons_succ, List.getElem?_cons_zero, List.getElem?_cons_succ]
      refine ⟨?_, ?_⟩
      · as_aux_lemma =>
        intro y_ hS_ hO_ hD
        clear hS_ hO_ hD
        refine s_gen (V := .bool true) [.bool true, .bool true, .bool false] (by kernel_rfl) (by kernel_rfl) (by kernel_rfl) ?_
        intro r_ hr_
        have o0_ : r_ (.tmp 61) = .bool true := op_at hr_ 0 (by kernel_rfl) (by kernel_rfl)
        have o1_ : r_ (.tmp 62) = .bool true := op_at hr_ 1 (by kernel_rfl) (by kernel_rfl)
        have o2_ : r_ (.const (.bool false)) = .bool false := op_at hr_ 2 (by kernel_rfl) (by kernel_rfl)
        clear hr_
        go_simp; first | done | with_reducible rfl | omega
      simp only [Act.put, planVG, List.setIfInBounds_toArray, List.set_cons_zero, List.set_cons_succ, List.getElem?_cons_zero, List.getElem?_cons_succ]
      refine ⟨?_, ?_⟩
      · as_aux_lemma =>
        intro y_ hS_ hO_ hD
        clear hS_ hO_ hD
        refine s_gen (V := .bool true) [.bool true] (by kernel_rfl) (by kernel_rfl) (by kernel_rfl) ?_
        intro r_ hr_
        have o0_ : r_ (.tmp 63) = .bool true := op_at hr_ 0 (by kernel_rfl) (by kernel_rfl)
        clear hr_
        go_simp; first | done | with_reducible rfl | omega
      simp only [Act.put, planVG, List.setIfInBounds_toArray, List.set_cons_zero, List.set_cons_succ, List.getElem?_cons_zero, List.getElem?_cons_succ]
      as_aux_lemma =>
        intro w4 hS hF hD_
        change wpList _ _ _ _ _ _
        replace hS := sg_no (by decide) hS
        obtain ⟨hk, hZ4, X1, Bv1_7⟩ := hS
        clear hF hD_
        clear ρ
        have hz_w4 := hk.size
        have X1l := X1.lt
        have X1f := X1.free
        have X1l1 : w.heap.size < w4.heap.size + 1 := by omega
        have X1l2 : w.heap.size < w4.heap.size + 1 + 1 := by omega
        have X1l3 : w.heap.size < w4.heap.size + 1 + 1 + 1 := by omega
        have X10 := X1.cell 0 _ rfl
        have X11 := X1.cell 1 _ rfl
        have X12 := X1.cell 2 _ rfl
        have X13 := X1.cell 3 _ rfl
        have Bv1_7l := Bv1_7.lt
        have Bv1_7f := Bv1_7.free
        have Bv1_7l1 : v1_7 < w4.heap.size + 1 := by omega
        have Bv1_7l2 : v1_7 < w4.heap.size + 1 + 1 := by omega
        have Bv1_7l3 : v1_7 < w4.heap.size + 1 + 1 + 1 := by omega
        have Bv1_70 := Bv1_7.cell 0 _ rfl
        have Bv1_71 := Bv1_7.cell 1 _ rfl
        have Bv1_72 := Bv1_7.cell 2 _ rfl
        have Bv1_73 := Bv1_7.cell 3 _ rfl
        go_wp2
        go_ret
        exact ⟨rfl, (by refine Kept.below ?_; repeat (first | with_reducible exact hk | with_reducible exact Kept.refl _ | with_reducible refine Kept.alloc ?_ _ | with_reducible refine Kept.drew ?_ | with_reducible refine Kept.setCell ?_ (by simp only [World.size_alloc, World.size_setCell, World.size_drew]; omega) _))⟩

set_option maxRecDepth 100000 in
set_option maxHeartbeats 8000000 in
theorem ShiftJams_up {A X Y : Nat} {n : Int} (hA : W256 A) (hX : W256 X) (hY : W256 Y) (n0 : -9223372036854775808 ≤ n) (n1 : n ≤ 9223372036854775807) (hA0 : A ≠ 0) (hY0 : Y ≠ 0) (hL : lostB A n = true) (eX : rightN A n = X) (eY : jamN A n = Y) (eD : wideV (sub256 Y X) = .agg #[.int .u64 1, .int .u64 0, .int .u64 0, .int .u64 0]) (eB : ltB Y X = false) (ho : bits .and .u64 (limb 0 Y) 1 = 1) (w : World) :
    Calls Try.prog 5 #[wideV A, .int .i64 n] w fun e w' => e = .returned (.bool true) ∧ Below w.heap.size w w' := by
  have hk := Kept.refl w
  have HL := Lib.hid hL; have HX := Lib.hid eX; have HY := Lib.hid eY; have HD := Lib.hid eD; have HB := Lib.hid eB
  have q1 : eqW (limb 0 A) (limb 1 A) (limb 2 A) (limb 3 A) 0 0 0 0 = false := by rw [eqW_at (IsWide.of hA) (IsWide.val u64_zero u64_zero u64_zero u64_zero)]; exact decide_eq_false hA0
  have q2 : eqW (limb 0 Y) (limb 1 Y) (limb 2 Y) (limb 3 Y) 0 0 0 0 = false := by rw [eqW_at (IsWide.of hY) (IsWide.val u64_zero u64_zero u64_zero u64_zero)]; exact decide_eq_false hY0
  have q3 : eqW 0 0 0 0 1 0 0 0 = false := by decide
  have q4 : eqW 1 0 0 0 0 0 0 0 = false := by decide
  clear hL eX eY eD eB hA0 hY0
  go_enter Try.func5, Try.ntmps5
  go_wp2
  refine wp_region_g 10 (fun W' => Kept w.heap.size w W' ∧ w.heap.size + 1 ≤ W'.heap.size ∧ Box W' (w.heap.size) #[.int .u64 (limb 0 A), .int .u64 (limb 1 A), .int .u64 (limb 2 A), .int .u64 (limb 3 A)]) (fun W' => Kept w.heap.size w W' ∧ w.heap.size + 1 ≤ W'.heap.size ∧ Box W' (w.heap.size) #[.int .u64 (limb 0 A), .int .u64 (limb 1 A), .int .u64 (limb 2 A), .int .u64 (limb 3 A)]) 1000 (w.heap.size + 1) [.known (wideV A), .known (.int .i64 (n)), .known (wideV X), .known (wideV A), .known (.int .i64 (n)), .known (wideV Y), .var #[.int .u64 0, .int .u64 0, .int .u64 0, .int .u64 0] 8 [.int .u64 (limb 0 X), .int .u64 (limb 1 X), .int .u64 (limb 2 X), .int .u64 (limb 3 X)], .var #[.int .u64 0, .int .u64 0, .int .u64 0, .int .u64 0] 9 [.int .u64 (limb 0 Y), .int .u64 (limb 1 Y), .int .u64 (limb 2 Y), .int .u64 (limb 3 Y)], .put 6, .put 7] (by kernel_rfl) (by kernel_rfl) (fun W W' h hb => ⟨h.1.step hb, Nat.le_trans (h.2.1) hb.size, Box.call hb (h.2.2)⟩) (fun W W' h hb => ⟨h.1.step hb, Nat.le_trans (h.2.1) hb.size, Box.call hb (h.2.2)⟩) (no_out (of_decide_eq_true (by kernel_rfl))) (.inr (fun W' b i v hb h => ⟨h.1.setCell (p := ⟨b, i, none⟩) (by simp only []; omega) v, (by rw [World.size_setCell]; exact h.2.1), (h.2.2).other (by omega)⟩)) (.inr (fun W' b i v hb h => ⟨h.1.setCell (p := ⟨b, i, none⟩) (by simp only []; omega) v, (by rw [World.size_setCell]; exact h.2.1), (h.2.2).other (by omega)⟩)) (fun _ h => h.2.1) (fun _ h => h.2.1) (⟨(by repeat (first | with_reducible exact hk | with_reducible exact Kept.refl _ | with_reducible refine Kept.alloc ?_ _ | with_reducible refine Kept.drew ?_ | with_reducible refine Kept.setCell ?_ (by simp only [World.size_alloc, World.size_setCell, World.size_drew]; omega) _)), (by (try simp only [World.size_alloc, World.size_setCell, World.size_drew]); omega), (by repeat (first | with_reducible assumption | with_reducible apply Box.set10 | with_reducible apply Box.set20 | with_reducible apply Box.set21 | with_reducible apply Box.set40 | with_reducible apply Box.set41 | with_reducible apply Box.set42 | with_reducible apply Box.set43 | with_reducible apply Box.set50 | with_reducible apply Box.set51 | with_reducible apply Box.set52 | with_reducible apply Box.set53 | with_reducible apply Box.set54 | with_reducible apply Box.drew | (with_reducible apply Box.newAt; (try simp only [World.size_alloc, World.size_setCell, World.size_drew]); done) | with_reducible apply Box.alloc | (with_reducible apply Box.other; case hne => ((try simp only [World.size_alloc, World.size_setCell, World.size_drew]); omega))))⟩) ?_
  clear hk
  intro ρ
  simp only [List.take_succ_cons, List.take_zero, List.drop_succ_cons, List.drop_zero]
  refine ⟨?_, ?_⟩
  · as_aux_lemma =>
    intro y_ hS_ hO_ hD
    have Q := ((hS_ (by rfl)).2.2).cell
    have q0 := Q 0 _ rfl
    have q1 := Q 1 _ rfl
    have q2 := Q 2 _ rfl
    have q3 := Q 3 _ rfl
    clear Q hS_ hO_ hD
    refine s_gen (V := wideV A) [.pointer (some ⟨w.heap.size, 0, none⟩)] (by kernel_rfl) (by kernel_rfl) (by kernel_rfl) ?_
    intro r_ hr_
    have o0_ : r_ (.tmp 2) = .pointer (some ⟨w.heap.size, 0, none⟩) := op_at hr_ 0 (by kernel_rfl) (by kernel_rfl)
    clear hr_
    go_simp; first | done | with_reducible rfl
  simp only [Act.put, planVG, List.setIfInBounds_toArray, List.set_cons_zero, List.set_cons_succ, List.getElem?_cons_zero, List.getElem?_cons_succ]
  refine ⟨?_, ?_⟩
  · as_aux_lemma =>
    intro y_ hS_ hO_ hD
    clear hS_ hO_ hD
    refine s_gen (V := .int .i64 (n)) [.int .i64 (n)] (by kernel_rfl) (by kernel_rfl) (by kernel_rfl) ?_
    intro r_ hr_
    have o0_ : r_ (.tmp 1) = .int .i64 (n) := op_at hr_ 0 (by kernel_rfl) (by kernel_rfl)
    clear hr_
    go_simp; first | done | with_reducible rfl | omega
  simp only [Act.put, planVG, List.setIfInBounds_toArray, List.set_cons_zero, List.set_cons_succ, List.getElem?_cons_zero, List.getElem?_cons_succ]
  refine ⟨?_, ?_⟩
  · as_aux_lemma =>
    intro y_ hS_ hO_ hD
    try clear hS
    clear hS_ hO_ hD
    refine s_gcall (V := wideV X) [.func (.func 22) #[] #[], wideV A, .int .i64 (n)] ?_ ?_ (by kernel_rfl) (by kernel_rfl) (by kernel_rfl) ?_ ?_
    rotate_left 2
    · intro r_ hr_
      have o0_ : r_ (.func 22) = .func (.func 22) #[] #[] := op_at hr_ 0 (by kernel_rfl) (by kernel_rfl)
      have o1_ : r_ (.tmp 9) = wideV A := op_at hr_ 1 (by kernel_rfl) (by kernel_rfl)
      have o2_ : r_ (.tmp 10) = .int .i64 (n) := op_at hr_ 2 (by kernel_rfl) (by kernel_rfl)
      clear hr_
      go_simp; first | done | with_reducible rfl | (constructor <;> with_reducible rfl)
    · refine calls_to (V := wideV X) (WideRight_at (IsWide.of hA) n (by omega) (by omega) _) (by rw [HX.out])
  simp only [Act.put, planVG, List.setIfInBounds_toArray, List.set_cons_zero, List.set_cons_succ, List.getElem?_cons_zero, List.getElem?_cons_succ]
  refine ⟨?_, ?_⟩
  · as_aux_lemma =>
    intro y_ hS_ hO_ hD
    have Q := ((hS_ (by rfl)).2.2).cell
    have q0 := Q 0 _ rfl
    have q1 := Q 1 _ rfl
    have q2 := Q 2 _ rfl
    have q3 := Q 3 _ rfl
    clear Q hS_ hO_ hD
    refine s_gen (V := wideV A) [.pointer (some ⟨w.heap.size, 0, none⟩)] (by kernel_rfl) (by kernel_rfl) (by kernel_rfl) ?_
    intro r_ hr_
    have o0_ : r_ (.tmp 2) = .pointer (some ⟨w.heap.size, 0, none⟩) := op_at hr_ 0 (by kernel_rfl) (by kernel_rfl)
    clear hr_
    go_simp; first | done | with_reducible rfl
  simp only [Act.put, planVG, List.setIfInBounds_toArray, List.set_cons_zero, List.set_cons_succ, List.getElem?_cons_zero, List.getElem?_cons_succ]
  refine ⟨?_, ?_⟩
  · as_aux_lemma =>
    intro y_ hS_ hO_ hD
    clear hS_ hO_ hD
    refine s_gen (V := .int .i64 (n)) [.int .i64 (n)] (by kernel_rfl) (by kernel_rfl) (by kernel_rfl) ?_
    intro r_ hr_
    have o0_ : r_ (.tmp 1) = .int .i64 (n) := op_at hr_ 0 (by kernel_rfl) (by kernel_rfl)
    clear hr_
    go_simp; first | done | with_reducible rfl | omega
  simp only [Act.put, planVG, List.setIfInBounds_toArray, List.set_cons_zero, List.set_cons_succ, List.getElem?_cons_zero, List.getElem?_cons_succ]
  refine ⟨?_, ?_⟩
  · as_aux_lemma =>
    intro y_ hS_ hO_ hD
    try clear hS
    clear hS_ hO_ hD
    refine s_gcall (V := wideV Y) [.func (.func 23) #[] #[], wideV A, .int .i64 (n)] ?_ ?_ (by kernel_rfl) (by kernel_rfl) (by kernel_rfl) ?_ ?_
    rotate_left 2
    · intro r_ hr_
      have o0_ : r_ (.func 23) = .func (.func 23) #[] #[] := op_at hr_ 0 (by kernel_rfl) (by kernel_rfl)
      have o1_ : r_ (.tmp 12) = wideV A := op_at hr_ 1 (by kernel_rfl) (by kernel_rfl)
      have o2_ : r_ (.tmp 13) = .int .i64 (n) := op_at hr_ 2 (by kernel_rfl) (by kernel_rfl)
      clear hr_
      go_simp; first | done | with_reducible rfl | (constructor <;> with_reducible rfl)
    · refine calls_to (V := wideV Y) (WideJam_at (IsWide.of hA) n (by omega) (by omega) _) (by rw [HY.out])
  simp only [Act.put, planVG, List.setIfInBounds_toArray, List.set_cons_zero, List.set_cons_succ, List.getElem?_cons_zero, List.getElem?_cons_succ]
  refine ⟨?_, ?_⟩
  · as_aux_lemma =>
    intro y_ hS_ hO_ hD
    clear hS_ hO_ hD
    refine s_alloc (by rfl) (by rfl) ?_
    simp only [allocTy]
    go_simp; first | done | with_reducible rfl | rfl
  simp only [Act.put, planVG, List.setIfInBounds_toArray, List.set_cons_zero, List.set_cons_succ, List.getElem?_cons_zero, List.getElem?_cons_succ]
  refine ⟨?_, ?_⟩
  · as_aux_lemma =>
    intro y_ hS_ hO_ hD
    clear hS_ hO_ hD
    refine s_alloc (by rfl) (by rfl) ?_
    simp only [allocTy]
    go_simp; first | done | with_reducible rfl | rfl
  simp only [Act.put, planVG, List.setIfInBounds_toArray, List.set_cons_zero, List.set_cons_succ, List.getElem?_cons_zero, List.getElem?_cons_succ]
  refine ⟨?_, ?_⟩
  · as_aux_lemma =>
    intro y_ hS_ hO_ hD
    have hS := hS_ (by rfl)
    clear hS hS_ hO_ hD
    refine s_gput (j := 6) (Z := #[.int .u64 0, .int .u64 0, .int .u64 0, .int .u64 0]) (V := [.int .u64 (limb 0 X), .int .u64 (limb 1 X), .int .u64 (limb 2 X), .int .u64 (limb 3 X)]) [ρ 6, wideV X] (by kernel_rfl) (by kernel_rfl) (by kernel_rfl) (by kernel_rfl) ?_
    intro r_ b hr_ hb hB F
    have o0_ : r_ (.tmp 5) = ρ 6 := op_at hr_ 0 (by kernel_rfl) (by kernel_rfl)
    have o1_ : r_ (.tmp 11) = wideV X := op_at hr_ 1 (by kernel_rfl) (by kernel_rfl)
    clear hr_
    rw [hb] at o0_
    have Q := F.cell
    have q0 := Q 0 _ rfl
    have q1 := Q 1 _ rfl
    have q2 := Q 2 _ rfl
    have q3 := Q 3 _ rfl
    have Qf := F.free
    have Ql := F.lt
    clear Q F
    simp only [putCells]
    go_simp; first | done | with_reducible rfl | rfl
  simp only [Act.put, planVG, List.setIfInBounds_toArray, List.set_cons_zero, List.set_cons_succ, List.getElem?_cons_zero, List.getElem?_cons_succ]
  refine ⟨?_, ?_⟩
  · as_aux_lemma =>
    intro y_ hS_ hO_ hD
    have hS := hS_ (by rfl)
    clear hS hS_ hO_ hD
    refine s_gput (j := 7) (Z := #[.int .u64 0, .int .u64 0, .int .u64 0, .int .u64 0]) (V := [.int .u64 (limb 0 Y), .int .u64 (limb 1 Y), .int .u64 (limb 2 Y), .int .u64 (limb 3 Y)]) [ρ 7, wideV Y] (by kernel_rfl) (by kernel_rfl) (by kernel_rfl) (by kernel_rfl) ?_
    intro r_ b hr_ hb hB F
    have o0_ : r_ (.tmp 6) = ρ 7 := op_at hr_ 0 (by kernel_rfl) (by kernel_rfl)
    have o1_ : r_ (.tmp 14) = wideV Y := op_at hr_ 1 (by kernel_rfl) (by kernel_rfl)
    clear hr_
    rw [hb] at o0_
    have Q := F.cell
    have q0 := Q 0 _ rfl
    have q1 := Q 1 _ rfl
    have q2 := Q 2 _ rfl
    have q3 := Q 3 _ rfl
    have Qf := F.free
    have Ql := F.lt
    clear Q F
    simp only [putCells]
    go_simp; first | done | with_reducible rfl | rfl
  simp only [Act.put, planVG, List.setIfInBounds_toArray, List.set_cons_zero, List.set_cons_succ, List.getElem?_cons_zero, List.getElem?_cons_succ]
  as_aux_lemma =>
    intro w1 hS hF hD_
    change wpList _ _ _ _ _ _
    replace hS := sg_no (by decide) hS
    obtain ⟨hk, hZ1, X1⟩ := hS
    obtain ⟨v1_6, e_v1_6, hv1_6, Bv1_6⟩ : ∃ b, ρ 6 = .pointer (some ⟨b, 0, none⟩) ∧ w.heap.size + 1 ≤ b ∧ Box w1 b #[.int .u64 (limb 0 X), .int .u64 (limb 1 X), .int .u64 (limb 2 X), .int .u64 (limb 3 X)] := by
      obtain ⟨b, h1, h2, h3⟩ := hF 6 (by decide)
      exact ⟨b, h1, h2, h3.lt, h3.cell, h3.free⟩
    obtain ⟨v1_7, e_v1_7, hv1_7, Bv1_7⟩ : ∃ b, ρ 7 = .pointer (some ⟨b, 0, none⟩) ∧ w.heap.size + 1 ≤ b ∧ Box w1 b #[.int .u64 (limb 0 Y), .int .u64 (limb 1 Y), .int .u64 (limb 2 Y), .int .u64 (limb 3 Y)] := by
      obtain ⟨b, h1, h2, h3⟩ := hF 7 (by decide)
      exact ⟨b, h1, h2, h3.lt, h3.cell, h3.free⟩
    have nv1_6_v1_7 : ¬ v1_6 = v1_7 := fun h => hD_ 6 7 (by decide) (by decide) (by decide) (by rfl) (by rfl) (by rw [e_v1_6, e_v1_7, h])
    have nv1_7_v1_6 : ¬ v1_7 = v1_6 := fun h => nv1_6_v1_7 h.symm
    clear hF hD_
    simp only [e_v1_6]
    clear e_v1_6
    simp only [e_v1_7]
    clear e_v1_7
    clear ρ
    have hz_w1 := hk.size
    have X1l := X1.lt
    have X1f := X1.free
    have X1l1 : w.heap.size < w1.heap.size + 1 := by omega
    have X1l2 : w.heap.size < w1.heap.size + 1 + 1 := by omega
    have X1l3 : w.heap.size < w1.heap.size + 1 + 1 + 1 := by omega
    have X10 := X1.cell 0 _ rfl
    have X11 := X1.cell 1 _ rfl
    have X12 := X1.cell 2 _ rfl
    have X13 := X1.cell 3 _ rfl
    have Bv1_6l := Bv1_6.lt
    have Bv1_6f := Bv1_6.free
    have Bv1_6l1 : v1_6 < w1.heap.size + 1 := by omega
    have Bv1_6l2 : v1_6 < w1.heap.size + 1 + 1 := by omega
    have Bv1_6l3 : v1_6 < w1.heap.size + 1 + 1 + 1 := by omega
    have Bv1_60 := Bv1_6.cell 0 _ rfl
    have Bv1_61 := Bv1_6.cell 1 _ rfl
    have Bv1_62 := Bv1_6.cell 2 _ rfl
    have Bv1_63 := Bv1_6.cell 3 _ rfl
    have Bv1_7l := Bv1_7.lt
    have Bv1_7f := Bv1_7.free
    have Bv1_7l1 : v1_7 < w1.heap.size + 1 := by omega
    have Bv1_7l2 : v1_7 < w1.heap.size + 1 + 1 := by omega
    have Bv1_7l3 : v1_7 < w1.heap.size + 1 + 1 + 1 := by omega
    have Bv1_70 := Bv1_7.cell 0 _ rfl
    have Bv1_71 := Bv1_7.cell 1 _ rfl
    have Bv1_72 := Bv1_7.cell 2 _ rfl
    have Bv1_73 := Bv1_7.cell 3 _ rfl
    go_wp2_with fail
    (with_reducible refine (calls_to (V := .tuple #[.agg #[.int .u64 1, .int .u64 0, .int .u64 0, .int .u64 0], .bool false]) (SubW_at (IsWide.of hY) (IsWide.of hX) _) (by rw [HD.out, HB.out])).mono ?_)
    rintro e w2 ⟨rfl, hb⟩
    have X1' : Box w2 (w.heap.size) #[.int .u64 (limb 0 A), .int .u64 (limb 1 A), .int .u64 (limb 2 A), .int .u64 (limb 3 A)] := Box.call hb (by repeat (first | with_reducible assumption | with_reducible apply Box.set10 | with_reducible apply Box.set20 | with_reducible apply Box.set21 | with_reducible apply Box.set40 | with_reducible apply Box.set41 | with_reducible apply Box.set42 | with_reducible apply Box.set43 | with_reducible apply Box.set50 | with_reducible apply Box.set51 | with_reducible apply Box.set52 | with_reducible apply Box.set53 | with_reducible apply Box.set54 | with_reducible apply Box.drew | (with_reducible apply Box.newAt; (try simp only [World.size_alloc, World.size_setCell, World.size_drew]); done) | with_reducible apply Box.alloc | (with_reducible apply Box.other; case hne => ((try simp only [World.size_alloc, World.size_setCell, World.size_drew]); omega))))
    have Bv1_7' : Box w2 (v1_7) #[.int .u64 (limb 0 Y), .int .u64 (limb 1 Y), .int .u64 (limb 2 Y), .int .u64 (limb 3 Y)] := Box.call hb (by repeat (first | with_reducible assumption | with_reducible apply Box.set10 | with_reducible apply Box.set20 | with_reducible apply Box.set21 | with_reducible apply Box.set40 | with_reducible apply Box.set41 | with_reducible apply Box.set42 | with_reducible apply Box.set43 | with_reducible apply Box.set50 | with_reducible apply Box.set51 | with_reducible apply Box.set52 | with_reducible apply Box.set53 | with_reducible apply Box.set54 | with_reducible apply Box.drew | (with_reducible apply Box.newAt; (try simp only [World.size_alloc, World.size_setCell, World.size_drew]); done) | with_reducible apply Box.alloc | (with_reducible apply Box.other; case hne => ((try simp only [World.size_alloc, World.size_setCell, World.size_drew]); omega))))
    have hk' : Kept w.heap.size w w2 := Kept.step (by repeat (first | with_reducible exact hk | with_reducible exact Kept.refl _ | with_reducible refine Kept.alloc ?_ _ | with_reducible refine Kept.drew ?_ | with_reducible refine Kept.setCell ?_ (by simp only [World.size_alloc, World.size_setCell, World.size_drew]; omega) _)) hb
    clear hk hb
    clear X1 X1l1 X1l2 X1l3 X1f X10 X11 X12 X13
    clear Bv1_6 Bv1_6l1 Bv1_6l2 Bv1_6l3 Bv1_6f Bv1_60 Bv1_61 Bv1_62 Bv1_63
    clear Bv1_7 Bv1_7l1 Bv1_7l2 Bv1_7l3 Bv1_7f Bv1_70 Bv1_71 Bv1_72 Bv1_73
    have X1 := X1'
    clear X1'
    have Bv1_7 := Bv1_7'
    clear Bv1_7'
    have hk := hk'
    clear hk'
    have hz_w2 := hk.size
    have X1l := X1.lt
    have X1f := X1.free
    have X1l1 : w.heap.size < w2.heap.size + 1 := by omega
    have X1l2 : w.heap.size < w2.heap.size + 1 + 1 := by omega
    have X1l3 : w.heap.size < w2.heap.size + 1 + 1 + 1 := by omega
    have X10 := X1.cell 0 _ rfl
    have X11 := X1.cell 1 _ rfl
    have X12 := X1.cell 2 _ rfl
    have X13 := X1.cell 3 _ rfl
    have Bv1_7l := Bv1_7.lt
    have Bv1_7f := Bv1_7.free
    have Bv1_7l1 : v1_7 < w2.heap.size + 1 := by omega
    have Bv1_7l2 : v1_7 < w2.heap.size + 1 + 1 := by omega
    have Bv1_7l3 : v1_7 < w2.heap.size + 1 + 1 + 1 := by omega
    have Bv1_70 := Bv1_7.cell 0 _ rfl
    have Bv1_71 := Bv1_7.cell 1 _ rfl
    have Bv1_72 := Bv1_7.cell 2 _ rfl
    have Bv1_73 := Bv1_7.cell 3 _ rfl
    go_upto_region 3 with fail
    refine wp_region_p 33 (fun W' => Kept w.heap.size w W' ∧ w2.heap.size + 1 ≤ W'.heap.size ∧ Box W' (w.heap.size) #[.int .u64 (limb 0 A), .int .u64 (limb 1 A), .int .u64 (limb 2 A), .int .u64 (limb 3 A)] ∧ Box W' (v1_7) #[.int .u64 (limb 0 Y), .int .u64 (limb 1 Y), .int .u64 (limb 2 Y), .int .u64 (limb 3 Y)] ∧ Box W' (w2.heap.size) #[.int .u64 1, .int .u64 0, .int .u64 0, .int .u64 0]) (fun W' => Kept w.heap.size w W' ∧ w2.heap.size + 1 ≤ W'.heap.size ∧ Box W' (w.heap.size) #[.int .u64 (limb 0 A), .int .u64 (limb 1 A), .int .u64 (limb 2 A), .int .u64 (limb 3 A)] ∧ Box W' (v1_7) #[.int .u64 (limb 0 Y), .int .u64 (limb 1 Y), .int .u64 (limb 2 Y), .int .u64 (limb 3 Y)] ∧ Box W' (w2.heap.size) #[.int .u64 1, .int .u64 0, .int .u64 0, .int .u64 0]) 1000 (w2.heap.size + 1) [.known (.bool false), .known (.bool false), .known (.agg #[.int .u64 1, .int .u64 0, .int .u64 0, .int .u64 0]), .known (.agg #[.int .u64 0, .int .u64 0, .int .u64 0, .int .u64 0]), .known (.bool true), .known (.bool true), .known (.agg #[.int .u64 1, .int .u64 0, .int .u64 0, .int .u64 0]), .known (.agg #[.int .u64 1, .int .u64 0, .int .u64 0, .int .u64 0]), .known (.bool false), .known (.bool false), .known (.bool false), .known (.bool false), .known (wideV A), .known (.int .i64 (n)), .known (.bool true), .known (.bool true), .known (.pointer (some ⟨v1_7, 0, none⟩)), .known (.int .u64 (limb 0 Y)), .known (.int .u64 1), .known (.bool false), .known (.bool false), .known (.bool false), .known (.bool false), .known (wideV A), .known (.int .i64 (n)), .known (.bool true), .known (.bool false), .known (.bool false), .known undef, .known undef, .known undef, .known (.bool false), .known (.bool false)] (by kernel_rfl) (by kernel_rfl) (fun W W' h hb => ⟨h.1.step hb, Nat.le_trans (h.2.1) hb.size, Box.call hb (h.2.2.1), Box.call hb (h.2.2.2.1), Box.call hb (h.2.2.2.2)⟩) (fun W W' h hb => ⟨h.1.step hb, Nat.le_trans (h.2.1) hb.size, Box.call hb (h.2.2.1), Box.call hb (h.2.2.2.1), Box.call hb (h.2.2.2.2)⟩) (no_out (of_decide_eq_true (by kernel_rfl))) (.inl (by kernel_rfl)) (.inl (by kernel_rfl)) (fun _ h => h.2.1) (fun _ h => h.2.1) (⟨(by repeat (first | with_reducible exact hk | with_reducible exact Kept.refl _ | with_reducible refine Kept.alloc ?_ _ | with_reducible refine Kept.drew ?_ | with_reducible refine Kept.setCell ?_ (by simp only [World.size_alloc, World.size_setCell, World.size_drew]; omega) _)), (by (try simp only [World.size_alloc, World.size_setCell, World.size_drew]); omega), (by repeat (first | with_reducible assumption | with_reducible apply Box.set10 | with_reducible apply Box.set20 | with_reducible apply Box.set21 | with_reducible apply Box.set40 | with_reducible apply Box.set41 | with_reducible apply Box.set42 | with_reducible apply Box.set43 | with_reducible apply Box.set50 | with_reducible apply Box.set51 | with_reducible apply Box.set52 | with_reducible apply Box.set53 | with_reducible apply Box.set54 | with_reducible apply Box.drew | (with_reducible apply Box.newAt; (try simp only [World.size_alloc, World.size_setCell, World.size_drew]); done) | with_reducible apply Box.alloc | (with_reducible apply Box.other; case hne => ((try simp only [World.size_alloc, World.size_setCell, World.size_drew]); omega)))), (by repeat (first | with_reducible assumption | with_reducible apply Box.set10 | with_reducible apply Box.set20 | with_reducible apply Box.set21 | with_reducible apply Box.set40 | with_reducible apply Box.set41 | with_reducible apply Box.set42 | with_reducible apply Box.set43 | with_reducible apply Box.set50 | with_reducible apply Box.set51 | with_reducible apply Box.set52 | with_reducible apply Box.set53 | with_reducible apply Box.set54 | with_reducible apply Box.drew | (with_reducible apply Box.newAt; (try simp only [World.size_alloc, World.size_setCell, World.size_drew]); done) | with_reducible apply Box.alloc | (with_reducible apply Box.other; case hne => ((try simp only [World.size_alloc, World.size_setCell, World.size_drew]); omega)))), (by repeat (first | with_reducible assumption | with_reducible apply Box.set10 | with_reducible apply Box.set20 | with_reducible apply Box.set21 | with_reducible apply Box.set40 | with_reducible apply Box.set41 | with_reducible apply Box.set42 | with_reducible apply Box.set43 | with_reducible apply Box.set50 | with_reducible apply Box.set51 | with_reducible apply Box.set52 | with_reducible apply Box.set53 | with_reducible apply Box.set54 | with_reducible apply Box.drew | (with_reducible apply Box.newAt; (try simp only [World.size_alloc, World.size_setCell, World.size_drew]); done) | with_reducible apply Box.alloc | (with_reducible apply Box.other; case hne => ((try simp only [World.size_alloc, World.size_setCell, World.size_drew]); omega))))⟩) ?_
    clear hk
    clear X1 X1l1 X1l2 X1l3 X1f X10 X11 X12 X13
    clear Bv1_7 Bv1_7l1 Bv1_7l2 Bv1_7l3 Bv1_7f Bv1_70 Bv1_71 Bv1_72 Bv1_73
    intro ρ
    simp only [List.take_succ_cons, List.take_zero, List.drop_succ_cons, List.drop_zero]
    refine ⟨?_, ?_⟩
    · as_aux_lemma =>
      intro y_ hS_ hO_ hD
      clear hS_ hO_ hD
      refine s_gen (V := .bool false) [.bool false] (by kernel_rfl) (by kernel_rfl) (by kernel_rfl) ?_
      intro r_ hr_
      have o0_ : r_ (.tmp 8) = .bool false := op_at hr_ 0 (by kernel_rfl) (by kernel_rfl)
      clear hr_
      go_simp; first | done | with_reducible rfl | omega
    simp only [Act.put, planVG, List.setIfInBounds_toArray, List.set_cons_zero, List.set_cons_succ, List.getElem?_cons_zero, List.getElem?_cons_succ]
    refine ⟨?_, ?_⟩
    · as_aux_lemma =>
      intro y_ hS_ hO_ hD
      clear hS_ hO_ hD
      refine s_gen (V := .bool false) [.bool false] (by kernel_rfl) (by kernel_rfl) (by kernel_rfl) ?_
      intro r_ hr_
      have o0_ : r_ (.tmp 21) = .bool false := op_at hr_ 0 (by kernel_rfl) (by kernel_rfl)
      clear hr_
      go_simp; first | done | with_reducible rfl | omega
    simp only [Act.put, planVG, List.setIfInBounds_toArray, List.set_cons_zero, List.set_cons_succ, List.getElem?_cons_zero, List.getElem?_cons_succ]
    refine ⟨?_, ?_⟩
    · as_aux_lemma =>
      intro y_ hS_ hO_ hD
      have Q := ((hS_ (by rfl)).2.2.2.2).cell
      have q0 := Q 0 _ rfl
      have q1 := Q 1 _ rfl
      have q2 := Q 2 _ rfl
      have q3 := Q 3 _ rfl
      clear Q hS_ hO_ hD
      refine s_gen (V := .agg #[.int .u64 1, .int .u64 0, .int .u64 0, .int .u64 0]) [.pointer (some ⟨w2.heap.size, 0, none⟩)] (by kernel_rfl) (by kernel_rfl) (by kernel_rfl) ?_
      intro r_ hr_
      have o0_ : r_ (.tmp 7) = .pointer (some ⟨w2.heap.size, 0, none⟩) := op_at hr_ 0 (by kernel_rfl) (by kernel_rfl)
      clear hr_
      go_simp; first | done | with_reducible rfl
    simp only [Act.put, planVG, List.setIfInBounds_toArray, List.set_cons_zero, List.set_cons_succ, List.getElem?_cons_zero, List.getElem?_cons_succ]
    refine ⟨?_, ?_⟩
    · as_aux_lemma =>
      intro y_ hS_ hO_ hD
      clear hS_ hO_ hD
      refine s_gen (V := .agg #[.int .u64 0, .int .u64 0, .int .u64 0, .int .u64 0]) [] (by kernel_rfl) (by kernel_rfl) (by kernel_rfl) ?_
      intro r_ hr_
      
      clear hr_
      go_simp; first | done | with_reducible rfl | omega
    simp only [Act.put, planVG, List.setIfInBounds_toArray, List.set_cons_zero, List.set_cons_succ, List.getElem?_cons_zero, List.getElem?_cons_succ]
    refine ⟨?_, ?_⟩
    · as_aux_lemma =>
      intro y_ hS_ hO_ hD
      clear hS_ hO_ hD
      refine s_gen (V := .bool true) [.agg #[.int .u64 1, .int .u64 0, .int .u64 0, .int .u64 0], .agg #[.int .u64 0, .int .u64 0, .int .u64 0, .int .u64 0]] (by kernel_rfl) (by kernel_rfl) (by kernel_rfl) ?_
      intro r_ hr_
      have o0_ : r_ (.tmp 23) = .agg #[.int .u64 1, .int .u64 0, .int .u64 0, .int .u64 0] := op_at hr_ 0 (by kernel_rfl) (by kernel_rfl)
      have o1_ : r_ (.tmp 24) = .agg #[.int .u64 0, .int .u64 0, .int .u64 0, .int .u64 0] := op_at hr_ 1 (by kernel_rfl) (by kernel_rfl)
      clear hr_
      go_simp; first | done | with_reducible rfl | omega
    simp only [Act.put, planVG, List.setIfInBounds_toArray, List.set_cons_zero, List.set_cons_succ, List.getElem?_cons_zero, List.getElem?_cons_succ]
    refine ⟨?_, ?_⟩
    · as_aux_lemma =>
      intro y_ hS_ hO_ hD
      clear hS_ hO_ hD
      refine s_gen (V := .bool true) [.bool true] (by kernel_rfl) (by kernel_rfl) (by kernel_rfl) ?_
      intro r_ hr_
      have o0_ : r_ (.tmp 25) = .bool true := op_at hr_ 0 (by kernel_rfl) (by kernel_rfl)
      clear hr_
      go_simp; first | done | with_reducible rfl | omega
    simp only [Act.put, planVG, List.setIfInBounds_toArray, List.set_cons_zero, List.set_cons_succ, List.getElem?_cons_zero, List.getElem?_cons_succ]
    refine ⟨?_, ?_⟩
    · as_aux_lemma =>
      intro y_ hS_ hO_ hD
      have Q := ((hS_ (by rfl)).2.2.2.2).cell
      have q0 := Q 0 _ rfl
      have q1 := Q 1 _ rfl
      have q2 := Q 2 _ rfl
      have q3 := Q 3 _ rfl
      clear Q hS_ hO_ hD
      refine s_gen (V := .agg #[.int .u64 1, .int .u64 0, .int .u64 0, .int .u64 0]) [.pointer (some ⟨w2.heap.size, 0, none⟩)] (by kernel_rfl) (by kernel_rfl) (by kernel_rfl) ?_
      intro r_ hr_
      have o0_ : r_ (.tmp 7) = .pointer (some ⟨w2.heap.size, 0, none⟩) := op_at hr_ 0 (by kernel_rfl) (by kernel_rfl)
      clear hr_
      go_simp; first | done | with_reducible rfl
    simp only [Act.put, planVG, List.setIfInBounds_toArray, List.set_cons_zero, List.set_cons_succ, List.getElem?_cons_zero, List.getElem?_cons_succ]
    refine ⟨?_, ?_⟩
    · as_aux_lemma =>
      intro y_ hS_ hO_ hD
      clear hS_ hO_ hD
      refine s_gen (V := .agg #[.int .u64 1, .int .u64 0, .int .u64 0, .int .u64 0]) [.int .u64 1] (by kernel_rfl) (by kernel_rfl) (by kernel_rfl) ?_
      intro r_ hr_
      have o0_ : r_ (.const (.int .u64 1)) = .int .u64 1 := op_at hr_ 0 (by kernel_rfl) (by kernel_rfl)
      clear hr_
      go_simp; first | done | with_reducible rfl | omega
    simp only [Act.put, planVG, List.setIfInBounds_toArray, List.set_cons_zero, List.set_cons_succ, List.getElem?_cons_zero, List.getElem?_cons_succ]
    refine ⟨?_, ?_⟩
    · as_aux_lemma =>
      intro y_ hS_ hO_ hD
      clear hS_ hO_ hD
      refine s_gen (V := .bool false) [.agg #[.int .u64 1, .int .u64 0, .int .u64 0, .int .u64 0], .agg #[.int .u64 1, .int .u64 0, .int .u64 0, .int .u64 0]] (by kernel_rfl) (by kernel_rfl) (by kernel_rfl) ?_
      intro r_ hr_
      have o0_ : r_ (.tmp 27) = .agg #[.int .u64 1, .int .u64 0, .int .u64 0, .int .u64 0] := op_at hr_ 0 (by kernel_rfl) (by kernel_rfl)
      have o1_ : r_ (.tmp 28) = .agg #[.int .u64 1, .int .u64 0, .int .u64 0, .int .u64 0] := op_at hr_ 1 (by kernel_rfl) (by kernel_rfl)
      clear hr_
      go_simp; first | done | with_reducible rfl | omega
    simp only [Act.put, planVG, List.setIfInBounds_toArray, List.set_cons_zero, List.set_cons_succ, List.getElem?_cons_zero, List.getElem?_cons_succ]
    refine ⟨?_, ?_⟩
    · as_aux_lemma =>
      intro y_ hS_ hO_ hD
      clear hS_ hO_ hD
      refine s_gen (V := .bool false) [.bool true, .bool false, .bool false] (by kernel_rfl) (by kernel_rfl) (by kernel_rfl) ?_
      intro r_ hr_
      have o0_ : r_ (.tmp 26) = .bool true := op_at hr_ 0 (by kernel_rfl) (by kernel_rfl)
      have o1_ : r_ (.tmp 29) = .bool false := op_at hr_ 1 (by kernel_rfl) (by kernel_rfl)
      have o2_ : r_ (.const (.bool false)) = .bool false := op_at hr_ 2 (by kernel_rfl) (by kernel_rfl)
      clear hr_
      go_simp; first | done | with_reducible rfl | omega
    simp only [Act.put, planVG, List.setIfInBounds_toArray, List.set_cons_zero, List.set_cons_succ, List.getElem?_cons_zero, List.getElem?_cons_succ]
    refine ⟨?_, ?_⟩
    · as_aux_lemma =>
      intro y_ hS_ hO_ hD
      clear hS_ hO_ hD
      refine s_gen (V := .bool false) [.bool false, .bool true, .bool false] (by kernel_rfl) (by kernel_rfl) (by kernel_rfl) ?_
      intro r_ hr_
      have o0_ : r_ (.tmp 22) = .bool false := op_at hr_ 0 (by kernel_rfl) (by kernel_rfl)
      have o1_ : r_ (.const (.bool true)) = .bool true := op_at hr_ 1 (by kernel_rfl) (by kernel_rfl)
      have o2_ : r_ (.tmp 30) = .bool false := op_at hr_ 2 (by kernel_rfl) (by kernel_rfl)
      clear hr_
      go_simp; first | done | with_reducible rfl | omega
    simp only [Act.put, planVG, List.setIfInBounds_toArray, List.set_cons_zero, List.set_cons_succ, List.getElem?_cons_zero, List.getElem?_cons_succ]
    refine ⟨?_, ?_⟩
    · as_aux_lemma =>
      intro y_ hS_ hO_ hD
      clear hS_ hO_ hD
      refine s_gen (V := .bool false) [.bool false] (by kernel_rfl) (by kernel_rfl) (by kernel_rfl) ?_
      intro r_ hr_
      have o0_ : r_ (.tmp 31) = .bool false := op_at hr_ 0 (by kernel_rfl) (by kernel_rfl)
      clear hr_
      go_simp; first | done | with_reducible rfl | omega
    simp only [Act.put, planVG, List.setIfInBounds_toArray, List.set_cons_zero, List.set_cons_succ, List.getElem?_cons_zero, List.getElem?_cons_succ]
    refine ⟨?_, ?_⟩
    · as_aux_lemma =>
      intro y_ hS_ hO_ hD
      have Q := ((hS_ (by rfl)).2.2.1).cell
      have q0 := Q 0 _ rfl
      have q1 := Q 1 _ rfl
      have q2 := Q 2 _ rfl
      have q3 := Q 3 _ rfl
      clear Q hS_ hO_ hD
      refine s_gen (V := wideV A) [.pointer (some ⟨w.heap.size, 0, none⟩)] (by kernel_rfl) (by kernel_rfl) (by kernel_rfl) ?_
      intro r_ hr_
      have o0_ : r_ (.tmp 2) = .pointer (some ⟨w.heap.size, 0, none⟩) := op_at hr_ 0 (by kernel_rfl) (by kernel_rfl)
      clear hr_
      go_simp; first | done | with_reducible rfl
    simp only [Act.put, planVG, List.setIfInBounds_toArray, List.set_cons_zero, List.set_cons_succ, List.getElem?_cons_zero, List.getElem?_cons_succ]
    refine ⟨?_, ?_⟩
    · as_aux_lemma =>
      intro y_ hS_ hO_ hD
      clear hS_ hO_ hD
      refine s_gen (V := .int .i64 (n)) [.int .i64 (n)] (by kernel_rfl) (by kernel_rfl) (by kernel_rfl) ?_
      intro r_ hr_
      have o0_ : r_ (.tmp 1) = .int .i64 (n) := op_at hr_ 0 (by kernel_rfl) (by kernel_rfl)
      clear hr_
      go_simp; first | done | with_reducible rfl | omega
    simp only [Act.put, planVG, List.setIfInBounds_toArray, List.set_cons_zero, List.set_cons_succ, List.getElem?_cons_zero, List.getElem?_cons_succ]
    refine ⟨?_, ?_⟩
    · as_aux_lemma =>
      intro y_ hS_ hO_ hD
      try clear hS
      clear hS_ hO_ hD
      refine s_gcall (V := .bool true) [.func (.func 24) #[] #[], wideV A, .int .i64 (n)] ?_ ?_ (by kernel_rfl) (by kernel_rfl) (by kernel_rfl) ?_ ?_
      rotate_left 2
      · intro r_ hr_
        have o0_ : r_ (.func 24) = .func (.func 24) #[] #[] := op_at hr_ 0 (by kernel_rfl) (by kernel_rfl)
        have o1_ : r_ (.tmp 33) = wideV A := op_at hr_ 1 (by kernel_rfl) (by kernel_rfl)
        have o2_ : r_ (.tmp 34) = .int .i64 (n) := op_at hr_ 2 (by kernel_rfl) (by kernel_rfl)
        clear hr_
        go_simp; first | done | with_reducible rfl | (constructor <;> with_reducible rfl)
      · refine calls_to (V := .bool true) (Lost_at (IsWide.of hA) n (by omega) (by omega) _) (by rw [HL.out])
    simp only [Act.put, planVG, List.setIfInBounds_toArray, List.set_cons_zero, List.set_cons_succ, List.getElem?_cons_zero, List.getElem?_cons_succ]
    refine ⟨?_, ?_⟩
    · as_aux_lemma =>
      intro y_ hS_ hO_ hD
      clear hS_ hO_ hD
      refine s_gen (V := .bool true) [.bool true] (by kernel_rfl) (by kernel_rfl) (by kernel_rfl) ?_
      intro r_ hr_
      have o0_ : r_ (.tmp 35) = .bool true := op_at hr_ 0 (by kernel_rfl) (by kernel_rfl)
      clear hr_
      go_simp; first | done | with_reducible rfl | omega
    simp only [Act.put, planVG, List.setIfInBounds_toArray, List.set_cons_zero, List.set_cons_succ, List.getElem?_cons_zero, List.getElem?_cons_succ]
    refine ⟨?_, ?_⟩
    · as_aux_lemma =>
      intro y_ hS_ hO_ hD
      clear hS_ hO_ hD
      refine s_gen (V := .pointer (some ⟨v1_7, 0, none⟩)) [.pointer (some ⟨v1_7, 0, none⟩), .int .i64 0] (by kernel_rfl) (by kernel_rfl) (by kernel_rfl) ?_
      intro r_ hr_
      have o0_ : r_ (.tmp 6) = .pointer (some ⟨v1_7, 0, none⟩) := op_at hr_ 0 (by kernel_rfl) (by kernel_rfl)
      have o1_ : r_ (.const (.int .i64 0)) = .int .i64 0 := op_at hr_ 1 (by kernel_rfl) (by kernel_rfl)
      clear hr_
      go_simp; first | done | with_reducible rfl | omega
    simp only [Act.put, planVG, List.setIfInBounds_toArray, List.set_cons_zero, List.set_cons_succ, List.getElem?_cons_zero, List.getElem?_cons_succ]
    refine ⟨?_, ?_⟩
    · as_aux_lemma =>
      intro y_ hS_ hO_ hD
      have Q := ((hS_ (by rfl)).2.2.2.1).cell
      have q0 := Q 0 _ rfl
      have q1 := Q 1 _ rfl
      have q2 := Q 2 _ rfl
      have q3 := Q 3 _ rfl
      clear Q hS_ hO_ hD
      refine s_gen (V := .int .u64 (limb 0 Y)) [.pointer (some ⟨v1_7, 0, none⟩)] (by kernel_rfl) (by kernel_rfl) (by kernel_rfl) ?_
      intro r_ hr_
      have o0_ : r_ (.tmp 37) = .pointer (some ⟨v1_7, 0, none⟩) := op_at hr_ 0 (by kernel_rfl) (by kernel_rfl)
      clear hr_
      go_simp; first | done | with_reducible rfl
    simp only [Act.put, planVG, List.setIfInBounds_toArray, List.set_cons_zero, List.set_cons_succ, List.getElem?_cons_zero, List.getElem?_cons_succ]
    refine ⟨?_, ?_⟩
    · as_aux_lemma =>
      intro y_ hS_ hO_ hD
      clear hS_ hO_ hD
      refine s_gen (V := .int .u64 1) [.int .u64 (limb 0 Y), .int .u64 1] (by kernel_rfl) (by kernel_rfl) (by kernel_rfl) ?_
      intro r_ hr_
      have o0_ : r_ (.tmp 38) = .int .u64 (limb 0 Y) := op_at hr_ 0 (by kernel_rfl) (by kernel_rfl)
      have o1_ : r_ (.const (.int .u64 1)) = .int .u64 1 := op_at hr_ 1 (by kernel_rfl) (by kernel_rfl)
      clear hr_
      go_simp; first | done | with_reducible rfl | omega
    simp only [Act.put, planVG, List.setIfInBounds_toArray, List.set_cons_zero, List.set_cons_succ, List.getElem?_cons_zero, List.getElem?_cons_succ]
    refine ⟨?_, ?_⟩
    · as_aux_lemma =>
      intro y_ hS_ hO_ hD
      clear hS_ hO_ hD
      refine s_gen (V := .bool false) [.int .u64 1, .int .u64 1] (by kernel_rfl) (by kernel_rfl) (by kernel_rfl) ?_
      intro r_ hr_
      have o0_ : r_ (.tmp 39) = .int .u64 1 := op_at hr_ 0 (by kernel_rfl) (by kernel_rfl)
      have o1_ : r_ (.const (.int .u64 1)) = .int .u64 1 := op_at hr_ 1 (by kernel_rfl) (by kernel_rfl)
      clear hr_
      go_simp; first | done | with_reducible rfl | omega
    simp only [Act.put, planVG, List.setIfInBounds_toArray, List.set_cons_zero, List.set_cons_succ, List.getElem?_cons_zero, List.getElem?_cons_succ]
    refine ⟨?_, ?_⟩
    · as_aux_lemma =>
      intro y_ hS_ hO_ hD
      clear hS_ hO_ hD
      refine s_gen (V := .bool false) [.bool true, .bool false, .bool false] (by kernel_rfl) (by kernel_rfl) (by kernel_rfl) ?_
      intro r_ hr_
      have o0_ : r_ (.tmp 36) = .bool true := op_at hr_ 0 (by kernel_rfl) (by kernel_rfl)
      have o1_ : r_ (.tmp 40) = .bool false := op_at hr_ 1 (by kernel_rfl) (by kernel_rfl)
      have o2_ : r_ (.const (.bool false)) = .bool false := op_at hr_ 2 (by kernel_rfl) (by kernel_rfl)
      clear hr_
      go_simp; first | done | with_reducible rfl | omega
    simp only [Act.put, planVG, List.setIfInBounds_toArray, List.set_cons_zero, List.set_cons_succ, List.getElem?_cons_zero, List.getElem?_cons_succ]
    refine ⟨?_, ?_⟩
    · as_aux_lemma =>
      intro y_ hS_ hO_ hD
      clear hS_ hO_ hD
      refine s_gen (V := .bool false) [.bool false, .bool true, .bool false] (by kernel_rfl) (by kernel_rfl) (by kernel_rfl) ?_
      intro r_ hr_
      have o0_ : r_ (.tmp 32) = .bool false := op_at hr_ 0 (by kernel_rfl) (by kernel_rfl)
      have o1_ : r_ (.const (.bool true)) = .bool true := op_at hr_ 1 (by kernel_rfl) (by kernel_rfl)
      have o2_ : r_ (.tmp 41) = .bool false := op_at hr_ 2 (by kernel_rfl) (by kernel_rfl)
      clear hr_
      go_simp; first | done | with_reducible rfl | omega
    simp only [Act.put, planVG, List.setIfInBounds_toArray, List.set_cons_zero, List.set_cons_succ, List.getElem?_cons_zero, List.getElem?_cons_succ]
    refine ⟨?_, ?_⟩
    · as_aux_lemma =>
      intro y_ hS_ hO_ hD
      clear hS_ hO_ hD
      refine s_gen (V := .bool false) [.bool false] (by kernel_rfl) (by kernel_rfl) (by kernel_rfl) ?_
      intro r_ hr_
      have o0_ : r_ (.tmp 42) = .bool false := op_at hr_ 0 (by kernel_rfl) (by kernel_rfl)
      clear hr_
      go_simp; first | done | with_reducible rfl | omega
    simp only [Act.put, planVG, List.setIfInBounds_toArray, List.set_cons_zero, List.set_cons_succ, List.getElem?_cons_zero, List.getElem?_cons_succ]
    refine ⟨?_, ?_⟩
    · as_aux_lemma =>
      intro y_ hS_ hO_ hD
      have Q := ((hS_ (by rfl)).2.2.1).cell
      have q0 := Q 0 _ rfl
      have q1 := Q 1 _ rfl
      have q2 := Q 2 _ rfl
      have q3 := Q 3 _ rfl
      clear Q hS_ hO_ hD
      refine s_gen (V := wideV A) [.pointer (some ⟨w.heap.size, 0, none⟩)] (by kernel_rfl) (by kernel_rfl) (by kernel_rfl) ?_
      intro r_ hr_
      have o0_ : r_ (.tmp 2) = .pointer (some ⟨w.heap.size, 0, none⟩) := op_at hr_ 0 (by kernel_rfl) (by kernel_rfl)
      clear hr_
      go_simp; first | done | with_reducible rfl
    simp only [Act.put, planVG, List.setIfInBounds_toArray, List.set_cons_zero, List.set_cons_succ, List.getElem?_cons_zero, List.getElem?_cons_succ]
    refine ⟨?_, ?_⟩
    · as_aux_lemma =>
      intro y_ hS_ hO_ hD
      clear hS_ hO_ hD
      refine s_gen (V := .int .i64 (n)) [.int .i64 (n)] (by kernel_rfl) (by kernel_rfl) (by kernel_rfl) ?_
      intro r_ hr_
      have o0_ : r_ (.tmp 1) = .int .i64 (n) := op_at hr_ 0 (by kernel_rfl) (by kernel_rfl)
      clear hr_
      go_simp; first | done | with_reducible rfl | omega
    simp only [Act.put, planVG, List.setIfInBounds_toArray, List.set_cons_zero, List.set_cons_succ, List.getElem?_cons_zero, List.getElem?_cons_succ]
    refine ⟨?_, ?_⟩
    · as_aux_lemma =>
      intro y_ hS_ hO_ hD
      try clear hS
      clear hS_ hO_ hD
      refine s_gcall (V := .bool true) [.func (.func 24) #[] #[], wideV A, .int .i64 (n)] ?_ ?_ (by kernel_rfl) (by kernel_rfl) (by kernel_rfl) ?_ ?_
      rotate_left 2
      · intro r_ hr_
        have o0_ : r_ (.func 24) = .func (.func 24) #[] #[] := op_at hr_ 0 (by kernel_rfl) (by kernel_rfl)
        have o1_ : r_ (.tmp 44) = wideV A := op_at hr_ 1 (by kernel_rfl) (by kernel_rfl)
        have o2_ : r_ (.tmp 45) = .int .i64 (n) := op_at hr_ 2 (by kernel_rfl) (by kernel_rfl)
        clear hr_
        go_simp; first | done | with_reducible rfl | (constructor <;> with_reducible rfl)
      · refine calls_to (V := .bool true) (Lost_at (IsWide.of hA) n (by omega) (by omega) _) (by rw [HL.out])
    simp only [Act.put, planVG, List.setIfInBounds_toArray, List.set_cons_zero, List.set_cons_succ, List.getElem?_cons_zero, List.getElem?_cons_succ]
    refine ⟨?_, ?_⟩
    · as_aux_lemma =>
      intro y_ hS_ hO_ hD
      clear hS_ hO_ hD
      refine s_gen (V := .bool false) [.bool true] (by kernel_rfl) (by kernel_rfl) (by kernel_rfl) ?_
      intro r_ hr_
      have o0_ : r_ (.tmp 46) = .bool true := op_at hr_ 0 (by kernel_rfl) (by kernel_rfl)
      clear hr_
      go_simp; first | done | with_reducible rfl | omega
    simp only [Act.put, planVG, List.setIfInBounds_toArray, List.set_cons_zero, List.set_cons_succ, List.getElem?_cons_zero, List.getElem?_cons_succ]
    refine ⟨?_, ?_⟩
    · as_aux_lemma =>
      intro y_ hS_ hO_ hD
      clear hS_ hO_ hD
      refine s_gen (V := .bool false) [.bool false] (by kernel_rfl) (by kernel_rfl) (by kernel_rfl) ?_
      intro r_ hr_
      have o0_ : r_ (.tmp 47) = .bool false := op_at hr_ 0 (by kernel_rfl) (by kernel_rfl)
      clear hr_
      go_simp; first | done | with_reducible rfl | omega
    simp only [Act.put, planVG, List.setIfInBounds_toArray, List.set_cons_zero, List.set_cons_succ, List.getElem?_cons_zero, List.getElem?_cons_succ]
    refine ⟨?_, ?_⟩
    · as_aux_lemma =>
      intro y_ hS_ hO_ hD
      exact s_skip (by rfl) (by rfl)
    simp only [Act.put, planVG, List.setIfInBounds_toArray, List.set_cons_zero, List.set_cons_succ, List.getElem?_cons_zero, List.getElem?_cons_succ]
    refine ⟨?_, ?_⟩
    · as_aux_lemma =>
      intro y_ hS_ hO_ hD
      exact s_skip (by rfl) (by rfl)
    simp only [Act.put, planVG, List.setIfInBounds_toArray, List.set_cons_zero, List.set_cons_succ, List.getElem?_cons_zero, List.getElem?_cons_succ]
    refine ⟨?_, ?_⟩
    · as_aux_lemma =>
      intro y_ hS_ hO_ hD
      exact s_skip (by rfl) (by rfl)
    simp only [Act.put, planVG, List.setIfInBounds_toArray, List.set_cons_zero, List.set_cons_succ, List.getElem?_cons_zero, List.getElem?_cons_succ]
    refine ⟨?_, ?_⟩
    · as_aux_lemma =>
      intro y_ hS_ hO_ hD
      clear hS_ hO_ hD
      refine s_gen (V := .bool false) [.bool false, undef, .bool false] (by kernel_rfl) (by kernel_rfl) (by kernel_rfl) ?_
      intro r_ hr_
      have o0_ : r_ (.tmp 48) = .bool false := op_at hr_ 0 (by kernel_rfl) (by kernel_rfl)
      have o1_ : r_ (.tmp 51) = undef := op_at hr_ 1 (by kernel_rfl) (by kernel_rfl)
      have o2_ : r_ (.const (.bool false)) = .bool false := op_at hr_ 2 (by kernel_rfl) (by kernel_rfl)
      clear hr_
      go_simp; first | done | with_reducible rfl | omega
    simp only [Act.put, planVG, List.setIfInBounds_toArray, List.set_cons_zero, List.set_cons_succ, List.getElem?_cons_zero, List.getElem?_cons_succ]
    refine ⟨?_, ?_⟩
    · as_aux_lemma =>
      intro y_ hS_ hO_ hD
      clear hS_ hO_ hD
      refine s_gen (V := .bool false) [.bool false, .bool true, .bool false] (by kernel_rfl) (by kernel_rfl) (by kernel_rfl) ?_
      intro r_ hr_
      have o0_ : r_ (.tmp 43) = .bool false := op_at hr_ 0 (by kernel_rfl) (by kernel_rfl)
      have o1_ : r_ (.const (.bool true)) = .bool true := op_at hr_ 1 (by kernel_rfl) (by kernel_rfl)
      have o2_ : r_ (.tmp 52) = .bool false := op_at hr_ 2 (by kernel_rfl) (by kernel_rfl)
      clear hr_
      go_simp; first | done | with_reducible rfl | omega
    simp only [Act.put, planVG, List.setIfInBounds_toArray, List.set_cons_zero, List.set_cons_succ, List.getElem?_cons_zero, List.getElem?_cons_succ]
    as_aux_lemma =>
      intro w3 hS hF hD_
      change wpList _ _ _ _ _ _
      replace hS := sg_no (by decide) hS
      obtain ⟨hk, hZ3, X1, Bv1_7, X2⟩ := hS
      clear hF hD_
      clear ρ
      have hz_w3 := hk.size
      have X1l := X1.lt
      have X1f := X1.free
      have X1l1 : w.heap.size < w3.heap.size + 1 := by omega
      have X1l2 : w.heap.size < w3.heap.size + 1 + 1 := by omega
      have X1l3 : w.heap.size < w3.heap.size + 1 + 1 + 1 := by omega
      have X10 := X1.cell 0 _ rfl
      have X11 := X1.cell 1 _ rfl
      have X12 := X1.cell 2 _ rfl
      have X13 := X1.cell 3 _ rfl
      have Bv1_7l := Bv1_7.lt
      have Bv1_7f := Bv1_7.free
      have Bv1_7l1 : v1_7 < w3.heap.size + 1 := by omega
      have Bv1_7l2 : v1_7 < w3.heap.size + 1 + 1 := by omega
      have Bv1_7l3 : v1_7 < w3.heap.size + 1 + 1 + 1 := by omega
      have Bv1_70 := Bv1_7.cell 0 _ rfl
      have Bv1_71 := Bv1_7.cell 1 _ rfl
      have Bv1_72 := Bv1_7.cell 2 _ rfl
      have Bv1_73 := Bv1_7.cell 3 _ rfl
      have X2l := X2.lt
      have X2f := X2.free
      have X2l1 : w2.heap.size < w3.heap.size + 1 := by omega
      have X2l2 : w2.heap.size < w3.heap.size + 1 + 1 := by omega
      have X2l3 : w2.heap.size < w3.heap.size + 1 + 1 + 1 := by omega
      have X20 := X2.cell 0 _ rfl
      have X21 := X2.cell 1 _ rfl
      have X22 := X2.cell 2 _ rfl
      have X23 := X2.cell 3 _ rfl
      go_wp2
      refine wp_region_g 11 (fun W' => Kept w.heap.size w W' ∧ w3.heap.size ≤ W'.heap.size ∧ Box W' (w.heap.size) #[.int .u64 (limb 0 A), .int .u64 (limb 1 A), .int .u64 (limb 2 A), .int .u64 (limb 3 A)] ∧ Box W' (v1_7) #[.int .u64 (limb 0 Y), .int .u64 (limb 1 Y), .int .u64 (limb 2 Y), .int .u64 (limb 3 Y)]) (fun W' => Kept w.heap.size w W' ∧ w3.heap.size ≤ W'.heap.size ∧ Box W' (w.heap.size) #[.int .u64 (limb 0 A), .int .u64 (limb 1 A), .int .u64 (limb 2 A), .int .u64 (limb 3 A)] ∧ Box W' (v1_7) #[.int .u64 (limb 0 Y), .int .u64 (limb 1 Y), .int .u64 (limb 2 Y), .int .u64 (limb 3 Y)]) 1000 (w3.heap.size) [.known (wideV Y), .known (.agg #[.int .u64 0, .int .u64 0, .int .u64 0, .int .u64 0]), .known (.bool false), .known (wideV A), .known (.agg #[.int .u64 0, .int .u64 0, .int .u64 0, .int .u64 0]), .known (.bool false), .known (.bool true), .known (.bool true), .known (.bool true), .known (.bool true), .known (.bool true)] (by kernel_rfl) (by kernel_rfl) (fun W W' h hb => ⟨h.1.step hb, Nat.le_trans (h.2.1) hb.size, Box.call hb (h.2.2.1), Box.call hb (h.2.2.2)⟩) (fun W W' h hb => ⟨h.1.step hb, Nat.le_trans (h.2.1) hb.size, Box.call hb (h.2.2.1), Box.call hb (h.2.2.2)⟩) (no_out (of_decide_eq_true (by kernel_rfl))) (.inl (by kernel_rfl)) (.inl (by kernel_rfl)) (fun _ h => h.2.1) (fun _ h => h.2.1) (⟨(by repeat (first | with_reducible exact hk | with_reducible exact Kept.refl _ | with_reducible refine Kept.alloc ?_ _ | with_reducible refine Kept.drew ?_ | with_reducible refine Kept.setCell ?_ (by simp only [World.size_alloc, World.size_setCell, World.size_drew]; omega) _)), (by (try simp only [World.size_alloc, World.size_setCell, World.size_drew]); omega), (by repeat (first | with_reducible assumption | with_reducible apply Box.set10 | with_reducible apply Box.set20 | with_reducible apply Box.set21 | with_reducible apply Box.set40 | with_reducible apply Box.set41 | with_reducible apply Box.set42 | with_reducible apply Box.set43 | with_reducible apply Box.set50 | with_reducible apply Box.set51 | with_reducible apply Box.set52 | with_reducible apply Box.set53 | with_reducible apply Box.set54 | with_reducible apply Box.drew | (with_reducible apply Box.newAt; (try simp only [World.size_alloc, World.size_setCell, World.size_drew]); done) | with_reducible apply Box.alloc | (with_reducible apply Box.other; case hne => ((try simp only [World.size_alloc, World.size_setCell, World.size_drew]); omega)))), (by repeat (first | with_reducible assumption | with_reducible apply Box.set10 | with_reducible apply Box.set20 | with_reducible apply Box.set21 | with_reducible apply Box.set40 | with_reducible apply Box.set41 | with_reducible apply Box.set42 | with_reducible apply Box.set43 | with_reducible apply Box.set50 | with_reducible apply Box.set51 | with_reducible apply Box.set52 | with_reducible apply Box.set53 | with_reducible apply Box.set54 | with_reducible apply Box.drew | (with_reducible apply Box.newAt; (try simp only [World.size_alloc, World.size_setCell, World.size_drew]); done) | with_reducible apply Box.alloc | (with_reducible apply Box.other; case hne => ((try simp only [World.size_alloc, World.size_setCell, World.size_drew]); omega))))⟩) ?_
      clear hk
      clear X1 X1l1 X1l2 X1l3 X1f X10 X11 X12 X13
      clear Bv1_7 Bv1_7l1 Bv1_7l2 Bv1_7l3 Bv1_7f Bv1_70 Bv1_71 Bv1_72 Bv1_73
      clear X2 X2l1 X2l2 X2l3 X2f X20 X21 X22 X23
      intro ρ
      simp only [List.take_succ_cons, List.take_zero, List.drop_succ_cons, List.drop_zero]
      refine ⟨?_, ?_⟩
      · as_aux_lemma =>
        intro y_ hS_ hO_ hD
        have Q := ((hS_ (by rfl)).2.2.2).cell
        have q0 := Q 0 _ rfl
        have q1 := Q 1 _ rfl
        have q2 := Q 2 _ rfl
        have q3 := Q 3 _ rfl
        clear Q hS_ hO_ hD
        refine s_gen (V := wideV Y) [.pointer (some ⟨v1_7, 0, none⟩)] (by kernel_rfl) (by kernel_rfl) (by kernel_rfl) ?_
        intro r_ hr_
        have o0_ : r_ (.tmp 6) = .pointer (some ⟨v1_7, 0, none⟩) := op_at hr_ 0 (by kernel_rfl) (by kernel_rfl)
        clear hr_
        go_simp; first | done | with_reducible rfl
      simp only [Act.put, planVG, List.setIfInBounds_toArray, List.set_cons_zero, List.set_cons_succ, List.getElem?_cons_zero, List.getElem?_cons_succ]
      refine ⟨?_, ?_⟩
      · as_aux_lemma =>
        intro y_ hS_ hO_ hD
        clear hS_ hO_ hD
        refine s_gen (V := .agg #[.int .u64 0, .int .u64 0, .int .u64 0, .int .u64 0]) [] (by kernel_rfl) (by kernel_rfl) (by kernel_rfl) ?_
        intro r_ hr_
        
        clear hr_
        go_simp; first | done | with_reducible rfl | omega
      simp only [Act.put, planVG, List.setIfInBounds_toArray, List.set_cons_zero, List.set_cons_succ, List.getElem?_cons_zero, List.getElem?_cons_succ]
      refine ⟨?_, ?_⟩
      · as_aux_lemma =>
        intro y_ hS_ hO_ hD
        clear hS_ hO_ hD
        refine s_gen (V := .bool false) [wideV Y, .agg #[.int .u64 0, .int .u64 0, .int .u64 0, .int .u64 0]] (by kernel_rfl) (by kernel_rfl) (by kernel_rfl) ?_
        intro r_ hr_
        have o0_ : r_ (.tmp 54) = wideV Y := op_at hr_ 0 (by kernel_rfl) (by kernel_rfl)
        have o1_ : r_ (.tmp 55) = .agg #[.int .u64 0, .int .u64 0, .int .u64 0, .int .u64 0] := op_at hr_ 1 (by kernel_rfl) (by kernel_rfl)
        clear hr_
        go_simp; first | done | with_reducible rfl | omega
      simp only [Act.put, planVG, List.setIfInBounds_toArray, List.set_cons_zero, List.set_cons_succ, List.getElem?_cons_zero, List.getElem?_cons_succ]
      refine ⟨?_, ?_⟩
      · as_aux_lemma =>
        intro y_ hS_ hO_ hD
        have Q := ((hS_ (by rfl)).2.2.1).cell
        have q0 := Q 0 _ rfl
        have q1 := Q 1 _ rfl
        have q2 := Q 2 _ rfl
        have q3 := Q 3 _ rfl
        clear Q hS_ hO_ hD
        refine s_gen (V := wideV A) [.pointer (some ⟨w.heap.size, 0, none⟩)] (by kernel_rfl) (by kernel_rfl) (by kernel_rfl) ?_
        intro r_ hr_
        have o0_ : r_ (.tmp 2) = .pointer (some ⟨w.heap.size, 0, none⟩) := op_at hr_ 0 (by kernel_rfl) (by kernel_rfl)
        clear hr_
        go_simp; first | done | with_reducible rfl
      simp only [Act.put, planVG, List.setIfInBounds_toArray, List.set_cons_zero, List.set_cons_succ, List.getElem?_cons_zero, List.getElem?_cons_succ]
      refine ⟨?_, ?_⟩
      · as_aux_lemma =>
        intro y_ hS_ hO_ hD
        clear hS_ hO_ hD
        refine s_gen (V := .agg #[.int .u64 0, .int .u64 0, .int .u64 0, .int .u64 0]) [] (by kernel_rfl) (by kernel_rfl) (by kernel_rfl) ?_
        intro r_ hr_
        
        clear hr_
        go_simp; first | done | with_reducible rfl | omega
      simp only [Act.put, planVG, List.setIfInBounds_toArray, List.set_cons_zero, List.set_cons_succ, List.getElem?_cons_zero, List.getElem?_cons_succ]
      refine ⟨?_, ?_⟩
      · as_aux_lemma =>
        intro y_ hS_ hO_ hD
        clear hS_ hO_ hD
        refine s_gen (V := .bool false) [wideV A, .agg #[.int .u64 0, .int .u64 0, .int .u64 0, .int .u64 0]] (by kernel_rfl) (by kernel_rfl) (by kernel_rfl) ?_
        intro r_ hr_
        have o0_ : r_ (.tmp 57) = wideV A := op_at hr_ 0 (by kernel_rfl) (by kernel_rfl)
        have o1_ : r_ (.tmp 58) = .agg #[.int .u64 0, .int .u64 0, .int .u64 0, .int .u64 0] := op_at hr_ 1 (by kernel_rfl) (by kernel_rfl)
        clear hr_
        go_simp; first | done | with_reducible rfl | omega
      simp only [Act.put, planVG, List.setIfInBounds_toArray, List.set_cons_zero, List.set_cons_succ, List.getElem?_cons_zero, List.getElem?_cons_succ]
      refine ⟨?_, ?_⟩
      · as_aux_lemma =>
        intro y_ hS_ hO_ hD
        clear hS_ hO_ hD
        refine s_gen (V := .bool true) [.bool false, .bool false] (by kernel_rfl) (by kernel_rfl) (by kernel_rfl) ?_
        intro r_ hr_
        have o0_ : r_ (.tmp 56) = .bool false := op_at hr_ 0 (by kernel_rfl) (by kernel_rfl)
        have o1_ : r_ (.tmp 59) = .bool false := op_at hr_ 1 (by kernel_rfl) (by kernel_rfl)
        clear hr_
        go_simp; first | done | with_reducible rfl | omega
      simp only [Act.put, planVG, List.setIfInBounds_toArray, List.set_cons_zero, List.set_cons_succ, List.getElem?_cons_zero, List.getElem?_cons_succ]
      refine ⟨?_, ?_⟩
      · as_aux_lemma =>
        intro y_ hS_ hO_ hD
        clear hS_ hO_ hD
        refine s_gen (V := .bool true) [.bool true] (by kernel_rfl) (by kernel_rfl) (by kernel_rfl) ?_
        intro r_ hr_
        have o0_ : r_ (.tmp 60) = .bool true := op_at hr_ 0 (by kernel_rfl) (by kernel_rfl)
        clear hr_
        go_simp; first | done | with_reducible rfl | omega
      simp only [Act.put, planVG, List.setIfInBounds_toArray, List.set_cons_zero, List.set_cons_succ, List.getElem?_cons_zero, List.getElem?_cons_succ]
      refine ⟨?_, ?_⟩
      · as_aux_lemma =>
        intro y_ hS_ hO_ hD
        try clear hS
        clear hS_ hO_ hD
        refine s_gcall (V := .bool true) [.func (.func 18) #[] #[]] ?_ ?_ (by kernel_rfl) (by kernel_rfl) (by kernel_rfl) ?_ ?_
        rotate_left 2
        · intro r_ hr_
          have o0_ : r_ (.func 18) = .func (.func 18) #[] #[] := op_at hr_ 0 (by kernel_rfl) (by kernel_rfl)
          clear hr_
          go_simp; first | done | with_reducible rfl | (constructor <;> with_reducible rfl)
        · refine goes03_any _
      simp only [Act.put, planVG, List.setIfInBounds_toArray, List.set_cons_zero, List.set_cons_succ, List.getElem?_cons_zero, List.getElem?_cons_succ]
      refine ⟨?_, ?_⟩
      · as_aux_lemma =>
        intro y_ hS_ hO_ hD
        clear hS_ hO_ hD
        refine s_gen (V := .bool true) [.bool true, .bool true, .bool false] (by kernel_rfl) (by kernel_rfl) (by kernel_rfl) ?_
        intro r_ hr_
        have o0_ : r_ (.tmp 61) = .bool true := op_at hr_ 0 (by kernel_rfl) (by kernel_rfl)
        have o1_ : r_ (.tmp 62) = .bool true := op_at hr_ 1 (by kernel_rfl) (by kernel_rfl)
        have o2_ : r_ (.const (.bool false)) = .bool false := op_at hr_ 2 (by kernel_rfl) (by kernel_rfl)
        clear hr_
        go_simp; first | done | with_reducible rfl | omega
      simp only [Act.put, planVG, List.setIfInBounds_toArray, List.set_cons_zero, List.set_cons_succ, List.getElem?_cons_zero, List.getElem?_cons_succ]
      refine ⟨?_, ?_⟩
      · as_aux_lemma =>
        intro y_ hS_ hO_ hD
        clear hS_ hO_ hD
        refine s_gen (V := .bool true) [.bool true] (by kernel_rfl) (by kernel_rfl) (by kernel_rfl) ?_
        intro r_ hr_
        have o0_ : r_ (.tmp 63) = .bool true := op_at hr_ 0 (by kernel_rfl) (by kernel_rfl)
        clear hr_
        go_simp; first | done | with_reducible rfl | omega
      simp only [Act.put, planVG, List.setIfInBounds_toArray, List.set_cons_zero, List.set_cons_succ, List.getElem?_cons_zero, List.getElem?_cons_succ]
      as_aux_lemma =>
        intro w4 hS hF hD_
        change wpList _ _ _ _ _ _
        replace hS := sg_no (by decide) hS
        obtain ⟨hk, hZ4, X1, Bv1_7⟩ := hS
        clear hF hD_
        clear ρ
        have hz_w4 := hk.size
        have X1l := X1.lt
        have X1f := X1.free
        have X1l1 : w.heap.size < w4.heap.size + 1 := by omega
        have X1l2 : w.heap.size < w4.heap.size + 1 + 1 := by omega
        have X1l3 : w.heap.size < w4.heap.size + 1 + 1 + 1 := by omega
        have X10 := X1.cell 0 _ rfl
        have X11 := X1.cell 1 _ rfl
        have X12 := X1.cell 2 _ rfl
        have X13 := X1.cell 3 _ rfl
        have Bv1_7l := Bv1_7.lt
        have Bv1_7f := Bv1_7.free
        have Bv1_7l1 : v1_7 < w4.heap.size + 1 := by omega
        have Bv1_7l2 : v1_7 < w4.heap.size + 1 + 1 := by omega
        have Bv1_7l3 : v1_7 < w4.heap.size + 1 + 1 + 1 := by omega
        have Bv1_70 := Bv1_7.cell 0 _ rfl
        have Bv1_71 := Bv1_7.cell 1 _ rfl
        have Bv1_72 := Bv1_7.cell 2 _ rfl
        have Bv1_73 := Bv1_7.cell 3 _ rfl
        go_wp2
        go_ret
        exact ⟨rfl, (by refine Kept.below ?_; repeat (first | with_reducible exact hk | with_reducible exact Kept.refl _ | with_reducible refine Kept.alloc ?_ _ | with_reducible refine Kept.drew ?_ | with_reducible refine Kept.setCell ?_ (by simp only [World.size_alloc, World.size_setCell, World.size_drew]; omega) _))⟩

theorem ShiftJams_walk {A : Nat} {n : Int} (hA : W256 A) (n0 : -9223372036854775808 ≤ n) (n1 : n ≤ 9223372036854775807) (w : World) :
    Calls Try.prog 5 #[wideV A, .int .i64 n] w fun e w' => e = .returned (.bool true) ∧ Below w.heap.size w w' := by
  by_cases h0 : A = 0
  · subst h0
    have hv : val4 0 0 0 0 = 0 := rfl
    have hl : lostB 0 n = false := by unfold lostB; simp
    have hr : rightN 0 n = 0 := by unfold rightN; exact Nat.zero_div _
    have hj : jamN 0 n = 0 := by rw [jam_no hl, hr]
    rw [zero256]
    exact ShiftJams_same0 n0 n1 (by rw [hv]; exact hl) (by rw [hv, hr]; exact zero256) (by rw [hv, hj]; exact zero256) w
  · have hX := right_w hA n
    cases hl : lostB A n with
    | false =>
      have hr : rightN A n ≠ 0 := by
        unfold lostB at hl
        have hm := of_decide_eq_false hl
        unfold rightN
        intro hq
        have := Nat.div_add_mod A (2 ^ n.toNat)
        rw [hq, Nat.mul_zero] at this
        omega
      exact ShiftJams_same hA hX n0 n1 h0 hr hl rfl (jam_no hl) (by rw [show sub256 (rightN A n) (rightN A n) = 0 by unfold sub256; have := hX.lt; omega]; exact zero256) (decide_eq_false (Nat.lt_irrefl _)) w
    | true =>
      have hj := jam_yes hl
      have hY := jam_w hA n
      have hx2 := hX.lt
      by_cases ho : rightN A n % 2 = 1
      · have e : oddN (rightN A n) = rightN A n := by unfold oddN; omega
        rw [e] at hj
        refine ShiftJams_odd hA hX n0 n1 h0 (by omega) hl rfl hj (by rw [show sub256 (rightN A n) (rightN A n) = 0 by unfold sub256; omega]; exact zero256) (decide_eq_false (Nat.lt_irrefl _)) ?_ w
        have := and_odd (rightN A n)
        rwa [e] at this
      · have e : oddN (rightN A n) = rightN A n + 1 := by unfold oddN; omega
        refine ShiftJams_up hA hX hY n0 n1 h0 (by rw [hj, e]; omega) hl rfl rfl ?_ (decide_eq_false (by rw [hj, e]; omega)) (by rw [hj]; exact and_odd _) w
        rw [hj, e, show sub256 (rightN A n + 1) (rightN A n) = 1 by unfold sub256; omega]; exact one256
end Go.Proofs.Ytglagdmfplgfaaa
