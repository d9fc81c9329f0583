/- package mag's contracts at what the laws ask; the laws' examples. -/
import Derived.Test.YthpmbfdbknikcaaMag4
import Derived.Test.YthpmbfdbknikcaaMag5
import Derived.Test.YthpmbfdbknikcaaWideLit
import Derived.Test.YthpmbfdbknikcaaWordLit
import Derived.Test.YthpmbfdbknikcaaRegionG
set_option linter.unusedVariables false
set_option linter.unusedSimpArgs false
namespace Go.Proofs.Ythpmbfdbknikcaa
open Go.RowKit

@[go_sem] theorem tfield0 (x a b c d : Value) (w : World) : (Instr.field 60 (.agg #[x, a, b, c, d]) 0).run Try.prog w = .ok x w := by kernel_rfl
@[go_sem] theorem equal_arr4n (a0 a1 a2 a3 b0 b1 b2 b3 : Int) (w : World) :
    (Op.equalIn 9999 26 (.agg #[.int .u64 a0, .int .u64 a1, .int .u64 a2, .int .u64 a3]) (.agg #[.int .u64 b0, .int .u64 b1, .int .u64 b2, .int .u64 b3])).run Try.prog w = .ok (eqW a0 a1 a2 a3 b0 b1 b2 b3) w :=
  equalIn_arr4 9997 a0 a1 a2 a3 b0 b1 b2 b3 w
@[go_sem] theorem eqW_same (a b c d : Int) : eqW a b c d a b c d = true := eqW_true.2 ⟨rfl, rfl, rfl, rfl⟩
@[go_sem] theorem tfield1 (x a b c d : Value) (w : World) : (Instr.field 60 (.agg #[x, a, b, c, d]) 1).run Try.prog w = .ok (.agg #[a, b, c, d]) w := by kernel_rfl
theorem magCmp_at {x y : Int} {a0 a1 a2 a3 b0 b1 b2 b3 : Int} {A B : Nat} (hA : IsWide a0 a1 a2 a3 A) (hB : IsWide b0 b1 b2 b3 B) (w : World) :
    Calls Try.prog 51 #[.agg #[.int .i64 x, .int .u64 a0, .int .u64 a1, .int .u64 a2, .int .u64 a3], .agg #[.int .i64 y, .int .u64 b0, .int .u64 b1, .int .u64 b2, .int .u64 b3]] w fun e w' => e = .returned (.int .i64 (cmpT (expI x) A (expI y) B)) ∧ Below w.heap.size w w' := by
  rw [hA.e0, hA.e1, hA.e2, hA.e3, hB.e0, hB.e1, hB.e2, hB.e3]; exact magCmp_any hA.w hB.w w
theorem magSum_at {x y : Int} {a0 a1 a2 a3 b0 b1 b2 b3 : Int} {A B : Nat} (hA : IsWide a0 a1 a2 a3 A) (hB : IsWide b0 b1 b2 b3 B) (w : World) :
    Calls Try.prog 47 #[.agg #[.int .i64 x, .int .u64 a0, .int .u64 a1, .int .u64 a2, .int .u64 a3], .agg #[.int .i64 y, .int .u64 b0, .int .u64 b1, .int .u64 b2, .int .u64 b3]] w fun e w' => e = .returned (termV (levelI (expI x) A (expI y) B + 1) (add256 (sideI (expI x) A (levelI (expI x) A (expI y) B + 1)) (sideI (expI y) B (levelI (expI x) A (expI y) B + 1)))) ∧ Below w.heap.size w w' := by
  rw [hA.e0, hA.e1, hA.e2, hA.e3, hB.e0, hB.e1, hB.e2, hB.e3]; exact magSum_any hA.w hB.w w
theorem magDiff0_at {x y : Int} {a0 a1 a2 a3 b0 b1 b2 b3 : Int} {A B : Nat} (hA : IsWide a0 a1 a2 a3 A) (hB : IsWide b0 b1 b2 b3 B) (h : ¬ cmpT (expI x) A (expI y) B < 0) (w : World) :
    Calls Try.prog 49 #[.agg #[.int .i64 x, .int .u64 a0, .int .u64 a1, .int .u64 a2, .int .u64 a3], .agg #[.int .i64 y, .int .u64 b0, .int .u64 b1, .int .u64 b2, .int .u64 b3]] w fun e w' => e = .returned (.tuple #[termV (levelI (expI x) A (expI y) B) (sub256 (sideI (expI x) A (levelI (expI x) A (expI y) B)) (sideI (expI y) B (levelI (expI x) A (expI y) B))), .bool false]) ∧ Below w.heap.size w w' := by
  rw [hA.e0, hA.e1, hA.e2, hA.e3, hB.e0, hB.e1, hB.e2, hB.e3]; exact magDiff_0 hA.w hB.w rfl h w
theorem magDiff1_at {x y : Int} {a0 a1 a2 a3 b0 b1 b2 b3 : Int} {A B : Nat} (hA : IsWide a0 a1 a2 a3 A) (hB : IsWide b0 b1 b2 b3 B) (h : cmpT (expI x) A (expI y) B < 0) (w : World) :
    Calls Try.prog 49 #[.agg #[.int .i64 x, .int .u64 a0, .int .u64 a1, .int .u64 a2, .int .u64 a3], .agg #[.int .i64 y, .int .u64 b0, .int .u64 b1, .int .u64 b2, .int .u64 b3]] w fun e w' => e = .returned (.tuple #[termV (levelI (expI y) B (expI x) A) (sub256 (sideI (expI y) B (levelI (expI y) B (expI x) A)) (sideI (expI x) A (levelI (expI y) B (expI x) A))), .bool true]) ∧ Below w.heap.size w w' := by
  rw [hA.e0, hA.e1, hA.e2, hA.e3, hB.e0, hB.e1, hB.e2, hB.e3]; exact magDiff_1 hA.w hB.w rfl h w
theorem magOf_at {ng : Bool} {cl ex s1 s0 : Int} {S : Nat} (hS : IsBits s1 s0 S) (w : World) :
    Calls Try.prog 55 #[.agg #[.bool ng, .int .u8 cl, .int .i64 ex, .int .u64 s1, .int .u64 s0]] w fun e w' => e = .returned (termV ex (joinN S (val2 0 0))) ∧ Below w.heap.size w w' := by
  rw [hS.hi, hS.lo]; exact magOf_any hS.w w
set_option maxRecDepth 100000 in
set_option maxHeartbeats 8000000 in
theorem one17_any (w : World) :
    Calls Try.prog 56 #[] w fun e w' => e = .returned (.agg #[.int .i64 0, .int .u64 0, .int .u64 0, .int .u64 0, .int .u64 9223372036854775808]) ∧ Below w.heap.size w w' := by
  have hk := Kept.refl w
  go_enter Try.func56, Try.ntmps56
  go_wp2
  refine bodyPost_ret (v := .agg #[.int .i64 0, .int .u64 0, .int .u64 0, .int .u64 0, .int .u64 9223372036854775808]) (by simp [results, Try.results56, go_sem]) rfl ⟨rfl, ?_⟩
  refine Kept.below ?_; repeat (first | with_reducible exact hk | with_reducible exact Kept.refl _ | with_reducible refine Kept.alloc ?_ _ | with_reducible refine Kept.drew ?_ | with_reducible refine Kept.setCell ?_ (by simp only [World.size_alloc, World.size_setCell, World.size_drew]; omega) _)

theorem lit_3f2d2434 (w : World) : Calls Try.prog 49 #[.agg #[.int .i64 0, .int .u64 0, .int .u64 0, .int .u64 0, .int .u64 9223372036854775808], .agg #[.int .i64 0, .int .u64 0, .int .u64 0, .int .u64 0, .int .u64 9223372036854775808]] w fun e w' => e = .returned (.tuple #[.agg #[.int .i64 0, .int .u64 0, .int .u64 0, .int .u64 0, .int .u64 0], .bool false]) ∧ Below w.heap.size w w' :=
  calls_to (V := .tuple #[.agg #[.int .i64 0, .int .u64 0, .int .u64 0, .int .u64 0, .int .u64 0], .bool false]) (magDiff0_at (x := 0) (y := 0) (IsWide.val u64_zero u64_zero u64_zero (isU64_mk (by decide +kernel))) (IsWide.val u64_zero u64_zero u64_zero (isU64_mk (by decide +kernel))) (by decide +kernel) _) (by kernel_rfl)
theorem lit_fd30a3f7 (w : World) : Calls Try.prog 47 #[.agg #[.int .i64 0, .int .u64 0, .int .u64 0, .int .u64 0, .int .u64 9223372036854775808], .agg #[.int .i64 (-300), .int .u64 0, .int .u64 0, .int .u64 0, .int .u64 9223372036854775808]] w fun e w' => e = .returned (.agg #[.int .i64 1, .int .u64 1, .int .u64 0, .int .u64 0, .int .u64 4611686018427387904]) ∧ Below w.heap.size w w' :=
  calls_to (V := .agg #[.int .i64 1, .int .u64 1, .int .u64 0, .int .u64 0, .int .u64 4611686018427387904]) (magSum_at (x := 0) (y := -300) (IsWide.val u64_zero u64_zero u64_zero (isU64_mk (by decide +kernel))) (IsWide.val u64_zero u64_zero u64_zero (isU64_mk (by decide +kernel))) _) (by kernel_rfl)
theorem lit_7dfcd6ff (w : World) : Calls Try.prog 47 #[.agg #[.int .i64 0, .int .u64 0, .int .u64 0, .int .u64 0, .int .u64 9223372036854775808], .agg #[.int .i64 0, .int .u64 0, .int .u64 0, .int .u64 0, .int .u64 9223372036854775808]] w fun e w' => e = .returned (.agg #[.int .i64 1, .int .u64 0, .int .u64 0, .int .u64 0, .int .u64 9223372036854775808]) ∧ Below w.heap.size w w' :=
  calls_to (V := .agg #[.int .i64 1, .int .u64 0, .int .u64 0, .int .u64 0, .int .u64 9223372036854775808]) (magSum_at (x := 0) (y := 0) (IsWide.val u64_zero u64_zero u64_zero (isU64_mk (by decide +kernel))) (IsWide.val u64_zero u64_zero u64_zero (isU64_mk (by decide +kernel))) _) (by kernel_rfl)
theorem lit_0c940e79 (w : World) : Calls Try.prog 51 #[.agg #[.int .i64 0, .int .u64 0, .int .u64 0, .int .u64 0, .int .u64 9223372036854775808], .agg #[.int .i64 (-300), .int .u64 0, .int .u64 0, .int .u64 0, .int .u64 9223372036854775808]] w fun e w' => e = .returned (.int .i64 1) ∧ Below w.heap.size w w' :=
  calls_to (V := .int .i64 1) (magCmp_at (x := 0) (y := -300) (IsWide.val u64_zero u64_zero u64_zero (isU64_mk (by decide +kernel))) (IsWide.val u64_zero u64_zero u64_zero (isU64_mk (by decide +kernel))) _) (by kernel_rfl)
set_option maxRecDepth 100000 in
set_option maxHeartbeats 8000000 in
theorem goes17_any (w : World) :
    Calls Try.prog 50 #[] w fun e w' => e = .returned (.bool true) ∧ Below w.heap.size w w' := by
  have hk := Kept.refl w
  go_enter Try.func50, Try.ntmps50
  go_wp2_with fail
  (with_reducible refine (one17_any _).mono ?_)
  rintro e w1 ⟨rfl, hb⟩
  have hk' : Kept w.heap.size w w1 := Kept.step (by repeat (first | with_reducible exact hk | with_reducible exact Kept.refl _ | with_reducible refine Kept.alloc ?_ _ | with_reducible refine Kept.drew ?_ | with_reducible refine Kept.setCell ?_ (by simp only [World.size_alloc, World.size_setCell, World.size_drew]; omega) _)) hb
  clear hk hb
  have hk := hk'
  clear hk'
  have hz_w1 := hk.size
  go_wp2_with fail
  (with_reducible refine (one17_any _).mono ?_)
  rintro e w2 ⟨rfl, hb⟩
  have hk' : Kept w.heap.size w w2 := Kept.step (by repeat (first | with_reducible exact hk | with_reducible exact Kept.refl _ | with_reducible refine Kept.alloc ?_ _ | with_reducible refine Kept.drew ?_ | with_reducible refine Kept.setCell ?_ (by simp only [World.size_alloc, World.size_setCell, World.size_drew]; omega) _)) hb
  clear hk hb
  have hk := hk'
  clear hk'
  have hz_w2 := hk.size
  go_wp2_with fail
  (with_reducible refine (lit_3f2d2434 _).mono ?_)
  rintro e w3 ⟨rfl, hb⟩
  have hk' : Kept w.heap.size w w3 := Kept.step (by repeat (first | with_reducible exact hk | with_reducible exact Kept.refl _ | with_reducible refine Kept.alloc ?_ _ | with_reducible refine Kept.drew ?_ | with_reducible refine Kept.setCell ?_ (by simp only [World.size_alloc, World.size_setCell, World.size_drew]; omega) _)) hb
  clear hk hb
  have hk := hk'
  clear hk'
  have hz_w3 := hk.size
  go_wp2_with fail
  (with_reducible refine (one17_any _).mono ?_)
  rintro e w4 ⟨rfl, hb⟩
  have X1' : Box w4 (w3.heap.size) #[.int .i64 0, .int .u64 0, .int .u64 0, .int .u64 0, .int .u64 0] := Box.call hb (by repeat (first | with_reducible assumption | with_reducible apply Box.set10 | with_reducible apply Box.set20 | with_reducible apply Box.set21 | with_reducible apply Box.set40 | with_reducible apply Box.set41 | with_reducible apply Box.set42 | with_reducible apply Box.set43 | with_reducible apply Box.set50 | with_reducible apply Box.set51 | with_reducible apply Box.set52 | with_reducible apply Box.set53 | with_reducible apply Box.set54 | with_reducible apply Box.set80 | with_reducible apply Box.set81 | with_reducible apply Box.set82 | with_reducible apply Box.set83 | with_reducible apply Box.set84 | with_reducible apply Box.set85 | with_reducible apply Box.set86 | with_reducible apply Box.set87 | with_reducible apply Box.drew | (with_reducible apply Box.newAt; (try simp only [World.size_alloc, World.size_setCell, World.size_drew]); done) | with_reducible apply Box.alloc | (with_reducible apply Box.other; case hne => ((try simp only [World.size_alloc, World.size_setCell, World.size_drew]); omega))))
  have hk' : Kept w.heap.size w w4 := Kept.step (by repeat (first | with_reducible exact hk | with_reducible exact Kept.refl _ | with_reducible refine Kept.alloc ?_ _ | with_reducible refine Kept.drew ?_ | with_reducible refine Kept.setCell ?_ (by simp only [World.size_alloc, World.size_setCell, World.size_drew]; omega) _)) hb
  clear hk hb
  have X1 := X1'
  clear X1'
  have hk := hk'
  clear hk'
  have hz_w4 := hk.size
  have X1l := X1.lt
  have X1f := X1.free
  have X1l1 : w3.heap.size < w4.heap.size + 1 := by omega
  have X1l2 : w3.heap.size < w4.heap.size + 1 + 1 := by omega
  have X1l3 : w3.heap.size < w4.heap.size + 1 + 1 + 1 := by omega
  have X10 := X1.cell 0 _ rfl
  have X11 := X1.cell 1 _ rfl
  have X12 := X1.cell 2 _ rfl
  have X13 := X1.cell 3 _ rfl
  have X14 := X1.cell 4 _ rfl
  go_wp2
  refine wp_region_g 4 (fun W' => Kept w.heap.size w W' ∧ w4.heap.size + 1 ≤ W'.heap.size ∧ Box W' (w3.heap.size) #[.int .i64 0, .int .u64 0, .int .u64 0, .int .u64 0, .int .u64 0] ∧ Box W' (w4.heap.size) #[.int .i64 (-300), .int .u64 0, .int .u64 0, .int .u64 0, .int .u64 9223372036854775808]) (fun W' => Kept w.heap.size w W' ∧ w4.heap.size + 1 ≤ W'.heap.size ∧ Box W' (w3.heap.size) #[.int .i64 0, .int .u64 0, .int .u64 0, .int .u64 0, .int .u64 0] ∧ Box W' (w4.heap.size) #[.int .i64 (-300), .int .u64 0, .int .u64 0, .int .u64 0, .int .u64 9223372036854775808]) 1000 (w4.heap.size + 1) [.known (.agg #[.int .i64 0, .int .u64 0, .int .u64 0, .int .u64 0, .int .u64 9223372036854775808]), .known (.agg #[.int .i64 (-300), .int .u64 0, .int .u64 0, .int .u64 0, .int .u64 9223372036854775808]), .known (.agg #[.int .i64 1, .int .u64 1, .int .u64 0, .int .u64 0, .int .u64 4611686018427387904]), .var #[.int .i64 0, .int .u64 0, .int .u64 0, .int .u64 0, .int .u64 0] 1000 [.int .i64 0, .int .u64 0, .int .u64 0, .int .u64 0, .int .u64 0]] (by kernel_rfl) (by kernel_rfl) (fun W W' h hb => ⟨h.1.step hb, Nat.le_trans (h.2.1) hb.size, Box.call hb (h.2.2.1), Box.call hb (h.2.2.2)⟩) (fun W W' h hb => ⟨h.1.step hb, Nat.le_trans (h.2.1) hb.size, Box.call hb (h.2.2.1), Box.call hb (h.2.2.2)⟩) (no_out (of_decide_eq_true (by kernel_rfl))) (.inl (by kernel_rfl)) (.inl (by kernel_rfl)) (fun _ h => h.2.1) (fun _ h => h.2.1) (⟨(by repeat (first | with_reducible exact hk | with_reducible exact Kept.refl _ | with_reducible refine Kept.alloc ?_ _ | with_reducible refine Kept.drew ?_ | with_reducible refine Kept.setCell ?_ (by simp only [World.size_alloc, World.size_setCell, World.size_drew]; omega) _)), (by (try simp only [World.size_alloc, World.size_setCell, World.size_drew]); omega), (by repeat (first | with_reducible assumption | with_reducible apply Box.set10 | with_reducible apply Box.set20 | with_reducible apply Box.set21 | with_reducible apply Box.set40 | with_reducible apply Box.set41 | with_reducible apply Box.set42 | with_reducible apply Box.set43 | with_reducible apply Box.set50 | with_reducible apply Box.set51 | with_reducible apply Box.set52 | with_reducible apply Box.set53 | with_reducible apply Box.set54 | with_reducible apply Box.set80 | with_reducible apply Box.set81 | with_reducible apply Box.set82 | with_reducible apply Box.set83 | with_reducible apply Box.set84 | with_reducible apply Box.set85 | with_reducible apply Box.set86 | with_reducible apply Box.set87 | with_reducible apply Box.drew | (with_reducible apply Box.newAt; (try simp only [World.size_alloc, World.size_setCell, World.size_drew]); done) | with_reducible apply Box.alloc | (with_reducible apply Box.other; case hne => ((try simp only [World.size_alloc, World.size_setCell, World.size_drew]); omega)))), (by repeat (first | with_reducible assumption | with_reducible apply Box.set10 | with_reducible apply Box.set20 | with_reducible apply Box.set21 | with_reducible apply Box.set40 | with_reducible apply Box.set41 | with_reducible apply Box.set42 | with_reducible apply Box.set43 | with_reducible apply Box.set50 | with_reducible apply Box.set51 | with_reducible apply Box.set52 | with_reducible apply Box.set53 | with_reducible apply Box.set54 | with_reducible apply Box.set80 | with_reducible apply Box.set81 | with_reducible apply Box.set82 | with_reducible apply Box.set83 | with_reducible apply Box.set84 | with_reducible apply Box.set85 | with_reducible apply Box.set86 | with_reducible apply Box.set87 | with_reducible apply Box.drew | (with_reducible apply Box.newAt; (try simp only [World.size_alloc, World.size_setCell, World.size_drew]); done) | with_reducible apply Box.alloc | (with_reducible apply Box.other; case hne => ((try simp only [World.size_alloc, World.size_setCell, World.size_drew]); omega))))⟩) ?_
  clear hk
  clear X1 X1l1 X1l2 X1l3 X1f X10 X11 X12 X13 X14
  intro ρ
  simp only [List.take_succ_cons, List.take_zero, List.drop_succ_cons, List.drop_zero]
  refine ⟨?_, ?_⟩
  · as_aux_lemma =>
    intro y_ hS_ hO_ hD
    try clear hS
    clear hS_ hO_ hD
    refine s_gcall (V := .agg #[.int .i64 0, .int .u64 0, .int .u64 0, .int .u64 0, .int .u64 9223372036854775808]) [.func (.func 56) #[] #[]] ?_ ?_ (by kernel_rfl) (by kernel_rfl) (by kernel_rfl) ?_ ?_
    rotate_left 2
    · intro r_ hr_
      have o0_ : r_ (.func 56) = .func (.func 56) #[] #[] := op_at hr_ 0 (by kernel_rfl) (by kernel_rfl)
      clear hr_
      go_simp; first | done | with_reducible rfl | (constructor <;> with_reducible rfl)
    · refine one17_any _
  simp only [Act.put, planVG, List.setIfInBounds_toArray, List.set_cons_zero, List.set_cons_succ, List.getElem?_cons_zero, List.getElem?_cons_succ]
  refine ⟨?_, ?_⟩
  · as_aux_lemma =>
    intro y_ hS_ hO_ hD
    have Q := ((hS_ (by rfl)).2.2.2).cell
    have q0 := Q 0 _ rfl
    have q1 := Q 1 _ rfl
    have q2 := Q 2 _ rfl
    have q3 := Q 3 _ rfl
    have q4 := Q 4 _ rfl
    clear Q hS_ hO_ hD
    refine s_gen (V := .agg #[.int .i64 (-300), .int .u64 0, .int .u64 0, .int .u64 0, .int .u64 9223372036854775808]) [.pointer (some ⟨w4.heap.size, 0, none⟩)] (by kernel_rfl) (by kernel_rfl) (by kernel_rfl) ?_
    intro r_ hr_
    have o0_ : r_ (.tmp 3) = .pointer (some ⟨w4.heap.size, 0, none⟩) := op_at hr_ 0 (by kernel_rfl) (by kernel_rfl)
    clear hr_
    go_simp; first | done | with_reducible rfl
  simp only [Act.put, planVG, List.setIfInBounds_toArray, List.set_cons_zero, List.set_cons_succ, List.getElem?_cons_zero, List.getElem?_cons_succ]
  refine ⟨?_, ?_⟩
  · as_aux_lemma =>
    intro y_ hS_ hO_ hD
    try clear hS
    clear hS_ hO_ hD
    refine s_gcall (V := .agg #[.int .i64 1, .int .u64 1, .int .u64 0, .int .u64 0, .int .u64 4611686018427387904]) [.func (.func 47) #[] #[], .agg #[.int .i64 0, .int .u64 0, .int .u64 0, .int .u64 0, .int .u64 9223372036854775808], .agg #[.int .i64 (-300), .int .u64 0, .int .u64 0, .int .u64 0, .int .u64 9223372036854775808]] ?_ ?_ (by kernel_rfl) (by kernel_rfl) (by kernel_rfl) ?_ ?_
    rotate_left 2
    · intro r_ hr_
      have o0_ : r_ (.func 47) = .func (.func 47) #[] #[] := op_at hr_ 0 (by kernel_rfl) (by kernel_rfl)
      have o1_ : r_ (.tmp 13) = .agg #[.int .i64 0, .int .u64 0, .int .u64 0, .int .u64 0, .int .u64 9223372036854775808] := op_at hr_ 1 (by kernel_rfl) (by kernel_rfl)
      have o2_ : r_ (.tmp 14) = .agg #[.int .i64 (-300), .int .u64 0, .int .u64 0, .int .u64 0, .int .u64 9223372036854775808] := op_at hr_ 2 (by kernel_rfl) (by kernel_rfl)
      clear hr_
      go_simp; first | done | with_reducible rfl | (constructor <;> with_reducible rfl)
    · refine lit_fd30a3f7 _
  simp only [Act.put, planVG, List.setIfInBounds_toArray, List.set_cons_zero, List.set_cons_succ, List.getElem?_cons_zero, List.getElem?_cons_succ]
  refine ⟨?_, ?_⟩
  · as_aux_lemma =>
    intro y_ hS_ hO_ hD
    clear hS_ hO_ hD
    refine s_alloc (by rfl) (by rfl) ?_
    simp only [allocTy]
    go_simp; first | done | with_reducible rfl | rfl
  simp only [Act.put, planVG, List.setIfInBounds_toArray, List.set_cons_zero, List.set_cons_succ, List.getElem?_cons_zero, List.getElem?_cons_succ]
  as_aux_lemma =>
    intro w5 hS hF hD_
    change wpList _ _ _ _ _ _
    replace hS := sg_no (by decide) hS
    obtain ⟨hk, hZ5, X1, X2⟩ := hS
    obtain ⟨v4_3, e_v4_3, hv4_3, Bv4_3⟩ : ∃ b, ρ 3 = .pointer (some ⟨b, 0, none⟩) ∧ w4.heap.size + 1 ≤ b ∧ Box w5 b #[.int .i64 0, .int .u64 0, .int .u64 0, .int .u64 0, .int .u64 0] := by
      obtain ⟨b, h1, h2, h3⟩ := hF 3 (by decide)
      exact ⟨b, h1, h2, h3.lt, h3.cell, h3.free⟩
    clear hF hD_
    simp only [e_v4_3]
    clear e_v4_3
    clear ρ
    have hz_w5 := hk.size
    have X1l := X1.lt
    have X1f := X1.free
    have X1l1 : w3.heap.size < w5.heap.size + 1 := by omega
    have X1l2 : w3.heap.size < w5.heap.size + 1 + 1 := by omega
    have X1l3 : w3.heap.size < w5.heap.size + 1 + 1 + 1 := by omega
    have X10 := X1.cell 0 _ rfl
    have X11 := X1.cell 1 _ rfl
    have X12 := X1.cell 2 _ rfl
    have X13 := X1.cell 3 _ rfl
    have X14 := X1.cell 4 _ rfl
    have X2l := X2.lt
    have X2f := X2.free
    have X2l1 : w4.heap.size < w5.heap.size + 1 := by omega
    have X2l2 : w4.heap.size < w5.heap.size + 1 + 1 := by omega
    have X2l3 : w4.heap.size < w5.heap.size + 1 + 1 + 1 := by omega
    have X20 := X2.cell 0 _ rfl
    have X21 := X2.cell 1 _ rfl
    have X22 := X2.cell 2 _ rfl
    have X23 := X2.cell 3 _ rfl
    have X24 := X2.cell 4 _ rfl
    have Bv4_3l := Bv4_3.lt
    have Bv4_3f := Bv4_3.free
    have Bv4_3l1 : v4_3 < w5.heap.size + 1 := by omega
    have Bv4_3l2 : v4_3 < w5.heap.size + 1 + 1 := by omega
    have Bv4_3l3 : v4_3 < w5.heap.size + 1 + 1 + 1 := by omega
    have Bv4_30 := Bv4_3.cell 0 _ rfl
    have Bv4_31 := Bv4_3.cell 1 _ rfl
    have Bv4_32 := Bv4_3.cell 2 _ rfl
    have Bv4_33 := Bv4_3.cell 3 _ rfl
    have Bv4_34 := Bv4_3.cell 4 _ rfl
    go_wp2
    refine wp_region_g 29 (fun W' => Kept w.heap.size w W' ∧ w5.heap.size ≤ W'.heap.size ∧ Box W' (w3.heap.size) #[.int .i64 0, .int .u64 0, .int .u64 0, .int .u64 0, .int .u64 0] ∧ Box W' (w4.heap.size) #[.int .i64 (-300), .int .u64 0, .int .u64 0, .int .u64 0, .int .u64 9223372036854775808] ∧ Box W' (v4_3) #[.int .i64 1, .int .u64 1, .int .u64 0, .int .u64 0, .int .u64 4611686018427387904]) (fun W' => Kept w.heap.size w W' ∧ w5.heap.size ≤ W'.heap.size ∧ Box W' (w3.heap.size) #[.int .i64 0, .int .u64 0, .int .u64 0, .int .u64 0, .int .u64 0] ∧ Box W' (w4.heap.size) #[.int .i64 (-300), .int .u64 0, .int .u64 0, .int .u64 0, .int .u64 9223372036854775808] ∧ Box W' (v4_3) #[.int .i64 1, .int .u64 1, .int .u64 0, .int .u64 0, .int .u64 4611686018427387904]) 1000 (w5.heap.size) [.known (.agg #[.int .i64 0, .int .u64 0, .int .u64 0, .int .u64 0, .int .u64 9223372036854775808]), .known (.agg #[.int .i64 0, .int .u64 0, .int .u64 0, .int .u64 0, .int .u64 9223372036854775808]), .known (.agg #[.int .i64 1, .int .u64 0, .int .u64 0, .int .u64 0, .int .u64 9223372036854775808]), .known (.agg #[.int .i64 0, .int .u64 0, .int .u64 0, .int .u64 0, .int .u64 9223372036854775808]), .known (.agg #[.int .u64 0, .int .u64 0, .int .u64 0, .int .u64 9223372036854775808]), .known (.agg #[.int .i64 1, .int .u64 0, .int .u64 0, .int .u64 0, .int .u64 9223372036854775808]), .known (.bool true), .known (.bool true), .known (.agg #[.int .i64 0, .int .u64 0, .int .u64 0, .int .u64 0, .int .u64 0]), .known (.agg #[.int .i64 0, .int .u64 0, .int .u64 0, .int .u64 0, .int .u64 0]), .known (.bool true), .known (.bool true), .known (.bool true), .known (.bool false), .known (.bool true), .known (.bool true), .known (.bool true), .known (.agg #[.int .i64 1, .int .u64 1, .int .u64 0, .int .u64 0, .int .u64 4611686018427387904]), .known (.agg #[.int .u64 1, .int .u64 0, .int .u64 0, .int .u64 4611686018427387904]), .known (.agg #[.int .i64 1, .int .u64 1, .int .u64 0, .int .u64 0, .int .u64 4611686018427387904]), .known (.bool true), .known (.bool true), .known (.bool true), .known (.agg #[.int .i64 0, .int .u64 0, .int .u64 0, .int .u64 0, .int .u64 9223372036854775808]), .known (.agg #[.int .i64 (-300), .int .u64 0, .int .u64 0, .int .u64 0, .int .u64 9223372036854775808]), .known (.int .i64 1), .known (.bool true), .known (.bool true), .known (.bool true)] (by kernel_rfl) (by kernel_rfl) (fun W W' h hb => ⟨h.1.step hb, Nat.le_trans (h.2.1) hb.size, Box.call hb (h.2.2.1), Box.call hb (h.2.2.2.1), Box.call hb (h.2.2.2.2)⟩) (fun W W' h hb => ⟨h.1.step hb, Nat.le_trans (h.2.1) hb.size, Box.call hb (h.2.2.1), Box.call hb (h.2.2.2.1), Box.call hb (h.2.2.2.2)⟩) (no_out (of_decide_eq_true (by kernel_rfl))) (.inl (by kernel_rfl)) (.inl (by kernel_rfl)) (fun _ h => h.2.1) (fun _ h => h.2.1) (⟨(by repeat (first | with_reducible exact hk | with_reducible exact Kept.refl _ | with_reducible refine Kept.alloc ?_ _ | with_reducible refine Kept.drew ?_ | with_reducible refine Kept.setCell ?_ (by simp only [World.size_alloc, World.size_setCell, World.size_drew]; omega) _)), (by (try simp only [World.size_alloc, World.size_setCell, World.size_drew]); omega), (by repeat (first | with_reducible assumption | with_reducible apply Box.set10 | with_reducible apply Box.set20 | with_reducible apply Box.set21 | with_reducible apply Box.set40 | with_reducible apply Box.set41 | with_reducible apply Box.set42 | with_reducible apply Box.set43 | with_reducible apply Box.set50 | with_reducible apply Box.set51 | with_reducible apply Box.set52 | with_reducible apply Box.set53 | with_reducible apply Box.set54 | with_reducible apply Box.set80 | with_reducible apply Box.set81 | with_reducible apply Box.set82 | with_reducible apply Box.set83 | with_reducible apply Box.set84 | with_reducible apply Box.set85 | with_reducible apply Box.set86 | with_reducible apply Box.set87 | with_reducible apply Box.drew | (with_reducible apply Box.newAt; (try simp only [World.size_alloc, World.size_setCell, World.size_drew]); done) | with_reducible apply Box.alloc | (with_reducible apply Box.other; case hne => ((try simp only [World.size_alloc, World.size_setCell, World.size_drew]); omega)))), (by repeat (first | with_reducible assumption | with_reducible apply Box.set10 | with_reducible apply Box.set20 | with_reducible apply Box.set21 | with_reducible apply Box.set40 | with_reducible apply Box.set41 | with_reducible apply Box.set42 | with_reducible apply Box.set43 | with_reducible apply Box.set50 | with_reducible apply Box.set51 | with_reducible apply Box.set52 | with_reducible apply Box.set53 | with_reducible apply Box.set54 | with_reducible apply Box.set80 | with_reducible apply Box.set81 | with_reducible apply Box.set82 | with_reducible apply Box.set83 | with_reducible apply Box.set84 | with_reducible apply Box.set85 | with_reducible apply Box.set86 | with_reducible apply Box.set87 | with_reducible apply Box.drew | (with_reducible apply Box.newAt; (try simp only [World.size_alloc, World.size_setCell, World.size_drew]); done) | with_reducible apply Box.alloc | (with_reducible apply Box.other; case hne => ((try simp only [World.size_alloc, World.size_setCell, World.size_drew]); omega)))), (by repeat (first | with_reducible assumption | with_reducible apply Box.set10 | with_reducible apply Box.set20 | with_reducible apply Box.set21 | with_reducible apply Box.set40 | with_reducible apply Box.set41 | with_reducible apply Box.set42 | with_reducible apply Box.set43 | with_reducible apply Box.set50 | with_reducible apply Box.set51 | with_reducible apply Box.set52 | with_reducible apply Box.set53 | with_reducible apply Box.set54 | with_reducible apply Box.set80 | with_reducible apply Box.set81 | with_reducible apply Box.set82 | with_reducible apply Box.set83 | with_reducible apply Box.set84 | with_reducible apply Box.set85 | with_reducible apply Box.set86 | with_reducible apply Box.set87 | with_reducible apply Box.drew | (with_reducible apply Box.newAt; (try simp only [World.size_alloc, World.size_setCell, World.size_drew]); done) | with_reducible apply Box.alloc | (with_reducible apply Box.other; case hne => ((try simp only [World.size_alloc, World.size_setCell, World.size_drew]); omega))))⟩) ?_
    clear hk
    clear X1 X1l1 X1l2 X1l3 X1f X10 X11 X12 X13 X14
    clear X2 X2l1 X2l2 X2l3 X2f X20 X21 X22 X23 X24
    clear Bv4_3 Bv4_3l1 Bv4_3l2 Bv4_3l3 Bv4_3f Bv4_30 Bv4_31 Bv4_32 Bv4_33 Bv4_34
    intro ρ
    simp only [List.take_succ_cons, List.take_zero, List.drop_succ_cons, List.drop_zero]
    refine ⟨?_, ?_⟩
    · as_aux_lemma =>
      intro y_ hS_ hO_ hD
      try clear hS
      clear hS_ hO_ hD
      refine s_gcall (V := .agg #[.int .i64 0, .int .u64 0, .int .u64 0, .int .u64 0, .int .u64 9223372036854775808]) [.func (.func 56) #[] #[]] ?_ ?_ (by kernel_rfl) (by kernel_rfl) (by kernel_rfl) ?_ ?_
      rotate_left 2
      · intro r_ hr_
        have o0_ : r_ (.func 56) = .func (.func 56) #[] #[] := op_at hr_ 0 (by kernel_rfl) (by kernel_rfl)
        clear hr_
        go_simp; first | done | with_reducible rfl | (constructor <;> with_reducible rfl)
      · refine one17_any _
    simp only [Act.put, planVG, List.setIfInBounds_toArray, List.set_cons_zero, List.set_cons_succ, List.getElem?_cons_zero, List.getElem?_cons_succ]
    refine ⟨?_, ?_⟩
    · as_aux_lemma =>
      intro y_ hS_ hO_ hD
      try clear hS
      clear hS_ hO_ hD
      refine s_gcall (V := .agg #[.int .i64 0, .int .u64 0, .int .u64 0, .int .u64 0, .int .u64 9223372036854775808]) [.func (.func 56) #[] #[]] ?_ ?_ (by kernel_rfl) (by kernel_rfl) (by kernel_rfl) ?_ ?_
      rotate_left 2
      · intro r_ hr_
        have o0_ : r_ (.func 56) = .func (.func 56) #[] #[] := op_at hr_ 0 (by kernel_rfl) (by kernel_rfl)
        clear hr_
        go_simp; first | done | with_reducible rfl | (constructor <;> with_reducible rfl)
      · refine one17_any _
    simp only [Act.put, planVG, List.setIfInBounds_toArray, List.set_cons_zero, List.set_cons_succ, List.getElem?_cons_zero, List.getElem?_cons_succ]
    refine ⟨?_, ?_⟩
    · as_aux_lemma =>
      intro y_ hS_ hO_ hD
      try clear hS
      clear hS_ hO_ hD
      refine s_gcall (V := .agg #[.int .i64 1, .int .u64 0, .int .u64 0, .int .u64 0, .int .u64 9223372036854775808]) [.func (.func 47) #[] #[], .agg #[.int .i64 0, .int .u64 0, .int .u64 0, .int .u64 0, .int .u64 9223372036854775808], .agg #[.int .i64 0, .int .u64 0, .int .u64 0, .int .u64 0, .int .u64 9223372036854775808]] ?_ ?_ (by kernel_rfl) (by kernel_rfl) (by kernel_rfl) ?_ ?_
      rotate_left 2
      · intro r_ hr_
        have o0_ : r_ (.func 47) = .func (.func 47) #[] #[] := op_at hr_ 0 (by kernel_rfl) (by kernel_rfl)
        have o1_ : r_ (.tmp 16) = .agg #[.int .i64 0, .int .u64 0, .int .u64 0, .int .u64 0, .int .u64 9223372036854775808] := op_at hr_ 1 (by kernel_rfl) (by kernel_rfl)
        have o2_ : r_ (.tmp 17) = .agg #[.int .i64 0, .int .u64 0, .int .u64 0, .int .u64 0, .int .u64 9223372036854775808] := op_at hr_ 2 (by kernel_rfl) (by kernel_rfl)
        clear hr_
        go_simp; first | done | with_reducible rfl | (constructor <;> with_reducible rfl)
      · refine lit_7dfcd6ff _
    simp only [Act.put, planVG, List.setIfInBounds_toArray, List.set_cons_zero, List.set_cons_succ, List.getElem?_cons_zero, List.getElem?_cons_succ]
    refine ⟨?_, ?_⟩
    · as_aux_lemma =>
      intro y_ hS_ hO_ hD
      try clear hS
      clear hS_ hO_ hD
      refine s_gcall (V := .agg #[.int .i64 0, .int .u64 0, .int .u64 0, .int .u64 0, .int .u64 9223372036854775808]) [.func (.func 56) #[] #[]] ?_ ?_ (by kernel_rfl) (by kernel_rfl) (by kernel_rfl) ?_ ?_
      rotate_left 2
      · intro r_ hr_
        have o0_ : r_ (.func 56) = .func (.func 56) #[] #[] := op_at hr_ 0 (by kernel_rfl) (by kernel_rfl)
        clear hr_
        go_simp; first | done | with_reducible rfl | (constructor <;> with_reducible rfl)
      · refine one17_any _
    simp only [Act.put, planVG, List.setIfInBounds_toArray, List.set_cons_zero, List.set_cons_succ, List.getElem?_cons_zero, List.getElem?_cons_succ]
    refine ⟨?_, ?_⟩
    · as_aux_lemma =>
      intro y_ hS_ hO_ hD
      clear hS_ hO_ hD
      refine s_gen (V := .agg #[.int .u64 0, .int .u64 0, .int .u64 0, .int .u64 9223372036854775808]) [.agg #[.int .i64 0, .int .u64 0, .int .u64 0, .int .u64 0, .int .u64 9223372036854775808]] (by kernel_rfl) (by kernel_rfl) (by kernel_rfl) ?_
      intro r_ hr_
      have o0_ : r_ (.tmp 19) = .agg #[.int .i64 0, .int .u64 0, .int .u64 0, .int .u64 0, .int .u64 9223372036854775808] := op_at hr_ 0 (by kernel_rfl) (by kernel_rfl)
      clear hr_
      go_simp; first | done | with_reducible rfl | omega
    simp only [Act.put, planVG, List.setIfInBounds_toArray, List.set_cons_zero, List.set_cons_succ, List.getElem?_cons_zero, List.getElem?_cons_succ]
    refine ⟨?_, ?_⟩
    · as_aux_lemma =>
      intro y_ hS_ hO_ hD
      clear hS_ hO_ hD
      refine s_gen (V := .agg #[.int .i64 1, .int .u64 0, .int .u64 0, .int .u64 0, .int .u64 9223372036854775808]) [.int .i64 1, .agg #[.int .u64 0, .int .u64 0, .int .u64 0, .int .u64 9223372036854775808]] (by kernel_rfl) (by kernel_rfl) (by kernel_rfl) ?_
      intro r_ hr_
      have o0_ : r_ (.const (.int .i64 1)) = .int .i64 1 := op_at hr_ 0 (by kernel_rfl) (by kernel_rfl)
      have o1_ : r_ (.tmp 20) = .agg #[.int .u64 0, .int .u64 0, .int .u64 0, .int .u64 9223372036854775808] := op_at hr_ 1 (by kernel_rfl) (by kernel_rfl)
      clear hr_
      go_simp; first | done | with_reducible rfl | omega
    simp only [Act.put, planVG, List.setIfInBounds_toArray, List.set_cons_zero, List.set_cons_succ, List.getElem?_cons_zero, List.getElem?_cons_succ]
    refine ⟨?_, ?_⟩
    · as_aux_lemma =>
      intro y_ hS_ hO_ hD
      clear hS_ hO_ hD
      refine s_gen (V := .bool true) [.agg #[.int .i64 1, .int .u64 0, .int .u64 0, .int .u64 0, .int .u64 9223372036854775808], .agg #[.int .i64 1, .int .u64 0, .int .u64 0, .int .u64 0, .int .u64 9223372036854775808]] (by kernel_rfl) (by kernel_rfl) (by kernel_rfl) ?_
      intro r_ hr_
      have o0_ : r_ (.tmp 18) = .agg #[.int .i64 1, .int .u64 0, .int .u64 0, .int .u64 0, .int .u64 9223372036854775808] := op_at hr_ 0 (by kernel_rfl) (by kernel_rfl)
      have o1_ : r_ (.tmp 21) = .agg #[.int .i64 1, .int .u64 0, .int .u64 0, .int .u64 0, .int .u64 9223372036854775808] := op_at hr_ 1 (by kernel_rfl) (by kernel_rfl)
      clear hr_
      go_simp; first | done | with_reducible rfl | omega
    simp only [Act.put, planVG, List.setIfInBounds_toArray, List.set_cons_zero, List.set_cons_succ, List.getElem?_cons_zero, List.getElem?_cons_succ]
    refine ⟨?_, ?_⟩
    · as_aux_lemma =>
      intro y_ hS_ hO_ hD
      clear hS_ hO_ hD
      refine s_gen (V := .bool true) [.bool true] (by kernel_rfl) (by kernel_rfl) (by kernel_rfl) ?_
      intro r_ hr_
      have o0_ : r_ (.tmp 22) = .bool true := op_at hr_ 0 (by kernel_rfl) (by kernel_rfl)
      clear hr_
      go_simp; first | done | with_reducible rfl | omega
    simp only [Act.put, planVG, List.setIfInBounds_toArray, List.set_cons_zero, List.set_cons_succ, List.getElem?_cons_zero, List.getElem?_cons_succ]
    refine ⟨?_, ?_⟩
    · as_aux_lemma =>
      intro y_ hS_ hO_ hD
      have Q := ((hS_ (by rfl)).2.2.1).cell
      have q0 := Q 0 _ rfl
      have q1 := Q 1 _ rfl
      have q2 := Q 2 _ rfl
      have q3 := Q 3 _ rfl
      have q4 := Q 4 _ rfl
      clear Q hS_ hO_ hD
      refine s_gen (V := .agg #[.int .i64 0, .int .u64 0, .int .u64 0, .int .u64 0, .int .u64 0]) [.pointer (some ⟨w3.heap.size, 0, none⟩)] (by kernel_rfl) (by kernel_rfl) (by kernel_rfl) ?_
      intro r_ hr_
      have o0_ : r_ (.tmp 1) = .pointer (some ⟨w3.heap.size, 0, none⟩) := op_at hr_ 0 (by kernel_rfl) (by kernel_rfl)
      clear hr_
      go_simp; first | done | with_reducible rfl
    simp only [Act.put, planVG, List.setIfInBounds_toArray, List.set_cons_zero, List.set_cons_succ, List.getElem?_cons_zero, List.getElem?_cons_succ]
    refine ⟨?_, ?_⟩
    · as_aux_lemma =>
      intro y_ hS_ hO_ hD
      clear hS_ hO_ hD
      refine s_gen (V := .agg #[.int .i64 0, .int .u64 0, .int .u64 0, .int .u64 0, .int .u64 0]) [] (by kernel_rfl) (by kernel_rfl) (by kernel_rfl) ?_
      intro r_ hr_
      
      clear hr_
      go_simp; first | done | with_reducible rfl | omega
    simp only [Act.put, planVG, List.setIfInBounds_toArray, List.set_cons_zero, List.set_cons_succ, List.getElem?_cons_zero, List.getElem?_cons_succ]
    refine ⟨?_, ?_⟩
    · as_aux_lemma =>
      intro y_ hS_ hO_ hD
      clear hS_ hO_ hD
      refine s_gen (V := .bool true) [.agg #[.int .i64 0, .int .u64 0, .int .u64 0, .int .u64 0, .int .u64 0], .agg #[.int .i64 0, .int .u64 0, .int .u64 0, .int .u64 0, .int .u64 0]] (by kernel_rfl) (by kernel_rfl) (by kernel_rfl) ?_
      intro r_ hr_
      have o0_ : r_ (.tmp 24) = .agg #[.int .i64 0, .int .u64 0, .int .u64 0, .int .u64 0, .int .u64 0] := op_at hr_ 0 (by kernel_rfl) (by kernel_rfl)
      have o1_ : r_ (.tmp 25) = .agg #[.int .i64 0, .int .u64 0, .int .u64 0, .int .u64 0, .int .u64 0] := op_at hr_ 1 (by kernel_rfl) (by kernel_rfl)
      clear hr_
      go_simp; first | done | with_reducible rfl | omega
    simp only [Act.put, planVG, List.setIfInBounds_toArray, List.set_cons_zero, List.set_cons_succ, List.getElem?_cons_zero, List.getElem?_cons_succ]
    refine ⟨?_, ?_⟩
    · as_aux_lemma =>
      intro y_ hS_ hO_ hD
      clear hS_ hO_ hD
      refine s_gen (V := .bool true) [.bool true, .bool true, .bool false] (by kernel_rfl) (by kernel_rfl) (by kernel_rfl) ?_
      intro r_ hr_
      have o0_ : r_ (.tmp 23) = .bool true := op_at hr_ 0 (by kernel_rfl) (by kernel_rfl)
      have o1_ : r_ (.tmp 26) = .bool true := op_at hr_ 1 (by kernel_rfl) (by kernel_rfl)
      have o2_ : r_ (.const (.bool false)) = .bool false := op_at hr_ 2 (by kernel_rfl) (by kernel_rfl)
      clear hr_
      go_simp; first | done | with_reducible rfl | omega
    simp only [Act.put, planVG, List.setIfInBounds_toArray, List.set_cons_zero, List.set_cons_succ, List.getElem?_cons_zero, List.getElem?_cons_succ]
    refine ⟨?_, ?_⟩
    · as_aux_lemma =>
      intro y_ hS_ hO_ hD
      clear hS_ hO_ hD
      refine s_gen (V := .bool true) [.bool true] (by kernel_rfl) (by kernel_rfl) (by kernel_rfl) ?_
      intro r_ hr_
      have o0_ : r_ (.tmp 27) = .bool true := op_at hr_ 0 (by kernel_rfl) (by kernel_rfl)
      clear hr_
      go_simp; first | done | with_reducible rfl | omega
    simp only [Act.put, planVG, List.setIfInBounds_toArray, List.set_cons_zero, List.set_cons_succ, List.getElem?_cons_zero, List.getElem?_cons_succ]
    refine ⟨?_, ?_⟩
    · as_aux_lemma =>
      intro y_ hS_ hO_ hD
      clear hS_ hO_ hD
      refine s_gen (V := .bool false) [.bool false] (by kernel_rfl) (by kernel_rfl) (by kernel_rfl) ?_
      intro r_ hr_
      have o0_ : r_ (.tmp 2) = .bool false := op_at hr_ 0 (by kernel_rfl) (by kernel_rfl)
      clear hr_
      go_simp; first | done | with_reducible rfl | omega
    simp only [Act.put, planVG, List.setIfInBounds_toArray, List.set_cons_zero, List.set_cons_succ, List.getElem?_cons_zero, List.getElem?_cons_succ]
    refine ⟨?_, ?_⟩
    · as_aux_lemma =>
      intro y_ hS_ hO_ hD
      clear hS_ hO_ hD
      refine s_gen (V := .bool true) [.bool false] (by kernel_rfl) (by kernel_rfl) (by kernel_rfl) ?_
      intro r_ hr_
      have o0_ : r_ (.tmp 29) = .bool false := op_at hr_ 0 (by kernel_rfl) (by kernel_rfl)
      clear hr_
      go_simp; first | done | with_reducible rfl | omega
    simp only [Act.put, planVG, List.setIfInBounds_toArray, List.set_cons_zero, List.set_cons_succ, List.getElem?_cons_zero, List.getElem?_cons_succ]
    refine ⟨?_, ?_⟩
    · as_aux_lemma =>
      intro y_ hS_ hO_ hD
      clear hS_ hO_ hD
      refine s_gen (V := .bool true) [.bool true, .bool true, .bool false] (by kernel_rfl) (by kernel_rfl) (by kernel_rfl) ?_
      intro r_ hr_
      have o0_ : r_ (.tmp 28) = .bool true := op_at hr_ 0 (by kernel_rfl) (by kernel_rfl)
      have o1_ : r_ (.tmp 30) = .bool true := op_at hr_ 1 (by kernel_rfl) (by kernel_rfl)
      have o2_ : r_ (.const (.bool false)) = .bool false := op_at hr_ 2 (by kernel_rfl) (by kernel_rfl)
      clear hr_
      go_simp; first | done | with_reducible rfl | omega
    simp only [Act.put, planVG, List.setIfInBounds_toArray, List.set_cons_zero, List.set_cons_succ, List.getElem?_cons_zero, List.getElem?_cons_succ]
    refine ⟨?_, ?_⟩
    · as_aux_lemma =>
      intro y_ hS_ hO_ hD
      clear hS_ hO_ hD
      refine s_gen (V := .bool true) [.bool true] (by kernel_rfl) (by kernel_rfl) (by kernel_rfl) ?_
      intro r_ hr_
      have o0_ : r_ (.tmp 31) = .bool true := op_at hr_ 0 (by kernel_rfl) (by kernel_rfl)
      clear hr_
      go_simp; first | done | with_reducible rfl | omega
    simp only [Act.put, planVG, List.setIfInBounds_toArray, List.set_cons_zero, List.set_cons_succ, List.getElem?_cons_zero, List.getElem?_cons_succ]
    refine ⟨?_, ?_⟩
    · as_aux_lemma =>
      intro y_ hS_ hO_ hD
      have Q := ((hS_ (by rfl)).2.2.2.2).cell
      have q0 := Q 0 _ rfl
      have q1 := Q 1 _ rfl
      have q2 := Q 2 _ rfl
      have q3 := Q 3 _ rfl
      have q4 := Q 4 _ rfl
      clear Q hS_ hO_ hD
      refine s_gen (V := .agg #[.int .i64 1, .int .u64 1, .int .u64 0, .int .u64 0, .int .u64 4611686018427387904]) [.pointer (some ⟨v4_3, 0, none⟩)] (by kernel_rfl) (by kernel_rfl) (by kernel_rfl) ?_
      intro r_ hr_
      have o0_ : r_ (.tmp 4) = .pointer (some ⟨v4_3, 0, none⟩) := op_at hr_ 0 (by kernel_rfl) (by kernel_rfl)
      clear hr_
      go_simp; first | done | with_reducible rfl
    simp only [Act.put, planVG, List.setIfInBounds_toArray, List.set_cons_zero, List.set_cons_succ, List.getElem?_cons_zero, List.getElem?_cons_succ]
    refine ⟨?_, ?_⟩
    · as_aux_lemma =>
      intro y_ hS_ hO_ hD
      clear hS_ hO_ hD
      refine s_gen (V := .agg #[.int .u64 1, .int .u64 0, .int .u64 0, .int .u64 4611686018427387904]) [.int .u64 1, .int .u64 0, .int .u64 0, .int .u64 4611686018427387904] (by kernel_rfl) (by kernel_rfl) (by kernel_rfl) ?_
      intro r_ hr_
      have o0_ : r_ (.const (.int .u64 1)) = .int .u64 1 := op_at hr_ 0 (by kernel_rfl) (by kernel_rfl)
      have o1_ : r_ (.const (.int .u64 0)) = .int .u64 0 := op_at hr_ 1 (by kernel_rfl) (by kernel_rfl)
      have o2_ : r_ (.const (.int .u64 0)) = .int .u64 0 := op_at hr_ 2 (by kernel_rfl) (by kernel_rfl)
      have o3_ : r_ (.const (.int .u64 4611686018427387904)) = .int .u64 4611686018427387904 := op_at hr_ 3 (by kernel_rfl) (by kernel_rfl)
      clear hr_
      go_simp; first | done | with_reducible rfl | omega
    simp only [Act.put, planVG, List.setIfInBounds_toArray, List.set_cons_zero, List.set_cons_succ, List.getElem?_cons_zero, List.getElem?_cons_succ]
    refine ⟨?_, ?_⟩
    · as_aux_lemma =>
      intro y_ hS_ hO_ hD
      clear hS_ hO_ hD
      refine s_gen (V := .agg #[.int .i64 1, .int .u64 1, .int .u64 0, .int .u64 0, .int .u64 4611686018427387904]) [.int .i64 1, .agg #[.int .u64 1, .int .u64 0, .int .u64 0, .int .u64 4611686018427387904]] (by kernel_rfl) (by kernel_rfl) (by kernel_rfl) ?_
      intro r_ hr_
      have o0_ : r_ (.const (.int .i64 1)) = .int .i64 1 := op_at hr_ 0 (by kernel_rfl) (by kernel_rfl)
      have o1_ : r_ (.tmp 34) = .agg #[.int .u64 1, .int .u64 0, .int .u64 0, .int .u64 4611686018427387904] := op_at hr_ 1 (by kernel_rfl) (by kernel_rfl)
      clear hr_
      go_simp; first | done | with_reducible rfl | omega
    simp only [Act.put, planVG, List.setIfInBounds_toArray, List.set_cons_zero, List.set_cons_succ, List.getElem?_cons_zero, List.getElem?_cons_succ]
    refine ⟨?_, ?_⟩
    · as_aux_lemma =>
      intro y_ hS_ hO_ hD
      clear hS_ hO_ hD
      refine s_gen (V := .bool true) [.agg #[.int .i64 1, .int .u64 1, .int .u64 0, .int .u64 0, .int .u64 4611686018427387904], .agg #[.int .i64 1, .int .u64 1, .int .u64 0, .int .u64 0, .int .u64 4611686018427387904]] (by kernel_rfl) (by kernel_rfl) (by kernel_rfl) ?_
      intro r_ hr_
      have o0_ : r_ (.tmp 33) = .agg #[.int .i64 1, .int .u64 1, .int .u64 0, .int .u64 0, .int .u64 4611686018427387904] := op_at hr_ 0 (by kernel_rfl) (by kernel_rfl)
      have o1_ : r_ (.tmp 35) = .agg #[.int .i64 1, .int .u64 1, .int .u64 0, .int .u64 0, .int .u64 4611686018427387904] := op_at hr_ 1 (by kernel_rfl) (by kernel_rfl)
      clear hr_
      go_simp; first | done | with_reducible rfl | omega
    simp only [Act.put, planVG, List.setIfInBounds_toArray, List.set_cons_zero, List.set_cons_succ, List.getElem?_cons_zero, List.getElem?_cons_succ]
    refine ⟨?_, ?_⟩
    · as_aux_lemma =>
      intro y_ hS_ hO_ hD
      clear hS_ hO_ hD
      refine s_gen (V := .bool true) [.bool true, .bool true, .bool false] (by kernel_rfl) (by kernel_rfl) (by kernel_rfl) ?_
      intro r_ hr_
      have o0_ : r_ (.tmp 32) = .bool true := op_at hr_ 0 (by kernel_rfl) (by kernel_rfl)
      have o1_ : r_ (.tmp 36) = .bool true := op_at hr_ 1 (by kernel_rfl) (by kernel_rfl)
      have o2_ : r_ (.const (.bool false)) = .bool false := op_at hr_ 2 (by kernel_rfl) (by kernel_rfl)
      clear hr_
      go_simp; first | done | with_reducible rfl | omega
    simp only [Act.put, planVG, List.setIfInBounds_toArray, List.set_cons_zero, List.set_cons_succ, List.getElem?_cons_zero, List.getElem?_cons_succ]
    refine ⟨?_, ?_⟩
    · as_aux_lemma =>
      intro y_ hS_ hO_ hD
      clear hS_ hO_ hD
      refine s_gen (V := .bool true) [.bool true] (by kernel_rfl) (by kernel_rfl) (by kernel_rfl) ?_
      intro r_ hr_
      have o0_ : r_ (.tmp 37) = .bool true := op_at hr_ 0 (by kernel_rfl) (by kernel_rfl)
      clear hr_
      go_simp; first | done | with_reducible rfl | omega
    simp only [Act.put, planVG, List.setIfInBounds_toArray, List.set_cons_zero, List.set_cons_succ, List.getElem?_cons_zero, List.getElem?_cons_succ]
    refine ⟨?_, ?_⟩
    · as_aux_lemma =>
      intro y_ hS_ hO_ hD
      try clear hS
      clear hS_ hO_ hD
      refine s_gcall (V := .agg #[.int .i64 0, .int .u64 0, .int .u64 0, .int .u64 0, .int .u64 9223372036854775808]) [.func (.func 56) #[] #[]] ?_ ?_ (by kernel_rfl) (by kernel_rfl) (by kernel_rfl) ?_ ?_
      rotate_left 2
      · intro r_ hr_
        have o0_ : r_ (.func 56) = .func (.func 56) #[] #[] := op_at hr_ 0 (by kernel_rfl) (by kernel_rfl)
        clear hr_
        go_simp; first | done | with_reducible rfl | (constructor <;> with_reducible rfl)
      · refine one17_any _
    simp only [Act.put, planVG, List.setIfInBounds_toArray, List.set_cons_zero, List.set_cons_succ, List.getElem?_cons_zero, List.getElem?_cons_succ]
    refine ⟨?_, ?_⟩
    · as_aux_lemma =>
      intro y_ hS_ hO_ hD
      have Q := ((hS_ (by rfl)).2.2.2.1).cell
      have q0 := Q 0 _ rfl
      have q1 := Q 1 _ rfl
      have q2 := Q 2 _ rfl
      have q3 := Q 3 _ rfl
      have q4 := Q 4 _ rfl
      clear Q hS_ hO_ hD
      refine s_gen (V := .agg #[.int .i64 (-300), .int .u64 0, .int .u64 0, .int .u64 0, .int .u64 9223372036854775808]) [.pointer (some ⟨w4.heap.size, 0, none⟩)] (by kernel_rfl) (by kernel_rfl) (by kernel_rfl) ?_
      intro r_ hr_
      have o0_ : r_ (.tmp 3) = .pointer (some ⟨w4.heap.size, 0, none⟩) := op_at hr_ 0 (by kernel_rfl) (by kernel_rfl)
      clear hr_
      go_simp; first | done | with_reducible rfl
    simp only [Act.put, planVG, List.setIfInBounds_toArray, List.set_cons_zero, List.set_cons_succ, List.getElem?_cons_zero, List.getElem?_cons_succ]
    refine ⟨?_, ?_⟩
    · as_aux_lemma =>
      intro y_ hS_ hO_ hD
      try clear hS
      clear hS_ hO_ hD
      refine s_gcall (V := .int .i64 1) [.func (.func 51) #[] #[], .agg #[.int .i64 0, .int .u64 0, .int .u64 0, .int .u64 0, .int .u64 9223372036854775808], .agg #[.int .i64 (-300), .int .u64 0, .int .u64 0, .int .u64 0, .int .u64 9223372036854775808]] ?_ ?_ (by kernel_rfl) (by kernel_rfl) (by kernel_rfl) ?_ ?_
      rotate_left 2
      · intro r_ hr_
        have o0_ : r_ (.func 51) = .func (.func 51) #[] #[] := op_at hr_ 0 (by kernel_rfl) (by kernel_rfl)
        have o1_ : r_ (.tmp 39) = .agg #[.int .i64 0, .int .u64 0, .int .u64 0, .int .u64 0, .int .u64 9223372036854775808] := op_at hr_ 1 (by kernel_rfl) (by kernel_rfl)
        have o2_ : r_ (.tmp 40) = .agg #[.int .i64 (-300), .int .u64 0, .int .u64 0, .int .u64 0, .int .u64 9223372036854775808] := op_at hr_ 2 (by kernel_rfl) (by kernel_rfl)
        clear hr_
        go_simp; first | done | with_reducible rfl | (constructor <;> with_reducible rfl)
      · refine lit_0c940e79 _
    simp only [Act.put, planVG, List.setIfInBounds_toArray, List.set_cons_zero, List.set_cons_succ, List.getElem?_cons_zero, List.getElem?_cons_succ]
    refine ⟨?_, ?_⟩
    · as_aux_lemma =>
      intro y_ hS_ hO_ hD
      clear hS_ hO_ hD
      refine s_gen (V := .bool true) [.int .i64 1, .int .i64 1] (by kernel_rfl) (by kernel_rfl) (by kernel_rfl) ?_
      intro r_ hr_
      have o0_ : r_ (.tmp 41) = .int .i64 1 := op_at hr_ 0 (by kernel_rfl) (by kernel_rfl)
      have o1_ : r_ (.const (.int .i64 1)) = .int .i64 1 := op_at hr_ 1 (by kernel_rfl) (by kernel_rfl)
      clear hr_
      go_simp; first | done | with_reducible rfl | omega
    simp only [Act.put, planVG, List.setIfInBounds_toArray, List.set_cons_zero, List.set_cons_succ, List.getElem?_cons_zero, List.getElem?_cons_succ]
    refine ⟨?_, ?_⟩
    · as_aux_lemma =>
      intro y_ hS_ hO_ hD
      clear hS_ hO_ hD
      refine s_gen (V := .bool true) [.bool true, .bool true, .bool false] (by kernel_rfl) (by kernel_rfl) (by kernel_rfl) ?_
      intro r_ hr_
      have o0_ : r_ (.tmp 38) = .bool true := op_at hr_ 0 (by kernel_rfl) (by kernel_rfl)
      have o1_ : r_ (.tmp 42) = .bool true := op_at hr_ 1 (by kernel_rfl) (by kernel_rfl)
      have o2_ : r_ (.const (.bool false)) = .bool false := op_at hr_ 2 (by kernel_rfl) (by kernel_rfl)
      clear hr_
      go_simp; first | done | with_reducible rfl | omega
    simp only [Act.put, planVG, List.setIfInBounds_toArray, List.set_cons_zero, List.set_cons_succ, List.getElem?_cons_zero, List.getElem?_cons_succ]
    refine ⟨?_, ?_⟩
    · as_aux_lemma =>
      intro y_ hS_ hO_ hD
      clear hS_ hO_ hD
      refine s_gen (V := .bool true) [.bool true] (by kernel_rfl) (by kernel_rfl) (by kernel_rfl) ?_
      intro r_ hr_
      have o0_ : r_ (.tmp 43) = .bool true := op_at hr_ 0 (by kernel_rfl) (by kernel_rfl)
      clear hr_
      go_simp; first | done | with_reducible rfl | omega
    simp only [Act.put, planVG, List.setIfInBounds_toArray, List.set_cons_zero, List.set_cons_succ, List.getElem?_cons_zero, List.getElem?_cons_succ]
    as_aux_lemma =>
      intro w6 hS hF hD_
      change wpList _ _ _ _ _ _
      replace hS := sg_no (by decide) hS
      obtain ⟨hk, hZ6, X1, X2, Bv4_3⟩ := hS
      clear hF hD_
      clear ρ
      have hz_w6 := hk.size
      have X1l := X1.lt
      have X1f := X1.free
      have X1l1 : w3.heap.size < w6.heap.size + 1 := by omega
      have X1l2 : w3.heap.size < w6.heap.size + 1 + 1 := by omega
      have X1l3 : w3.heap.size < w6.heap.size + 1 + 1 + 1 := by omega
      have X10 := X1.cell 0 _ rfl
      have X11 := X1.cell 1 _ rfl
      have X12 := X1.cell 2 _ rfl
      have X13 := X1.cell 3 _ rfl
      have X14 := X1.cell 4 _ rfl
      have X2l := X2.lt
      have X2f := X2.free
      have X2l1 : w4.heap.size < w6.heap.size + 1 := by omega
      have X2l2 : w4.heap.size < w6.heap.size + 1 + 1 := by omega
      have X2l3 : w4.heap.size < w6.heap.size + 1 + 1 + 1 := by omega
      have X20 := X2.cell 0 _ rfl
      have X21 := X2.cell 1 _ rfl
      have X22 := X2.cell 2 _ rfl
      have X23 := X2.cell 3 _ rfl
      have X24 := X2.cell 4 _ rfl
      have Bv4_3l := Bv4_3.lt
      have Bv4_3f := Bv4_3.free
      have Bv4_3l1 : v4_3 < w6.heap.size + 1 := by omega
      have Bv4_3l2 : v4_3 < w6.heap.size + 1 + 1 := by omega
      have Bv4_3l3 : v4_3 < w6.heap.size + 1 + 1 + 1 := by omega
      have Bv4_30 := Bv4_3.cell 0 _ rfl
      have Bv4_31 := Bv4_3.cell 1 _ rfl
      have Bv4_32 := Bv4_3.cell 2 _ rfl
      have Bv4_33 := Bv4_3.cell 3 _ rfl
      have Bv4_34 := Bv4_3.cell 4 _ rfl
      go_wp2
      go_ret
      exact ⟨rfl, (by refine Kept.below ?_; repeat (first | with_reducible exact hk | with_reducible exact Kept.refl _ | with_reducible refine Kept.alloc ?_ _ | with_reducible refine Kept.drew ?_ | with_reducible refine Kept.setCell ?_ (by simp only [World.size_alloc, World.size_setCell, World.size_drew]; omega) _))⟩

end Go.Proofs.Ythpmbfdbknikcaa
