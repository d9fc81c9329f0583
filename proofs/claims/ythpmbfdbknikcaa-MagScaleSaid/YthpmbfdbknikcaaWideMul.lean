/- The contract of wide.Mul. -/
import Derived.Test.YthpmbfdbknikcaaWide2
import Derived.Test.YthpmbfdbknikcaaRegion2
import Derived.LoopN
import Derived.OpenShut
set_option linter.unusedVariables false
set_option linter.unusedSimpArgs false
namespace Go.Proofs.Ythpmbfdbknikcaa
open Go.RowKit

@[irreducible] def mulN (A B : Nat) : Nat := A * B
theorem mulN_def (A B : Nat) : mulN A B = A * B := by unfold mulN; rfl
theorem joinN_def (H L : Nat) : joinN H L = H * 2 ^ 128 + L := by unfold joinN; rfl
theorem mulN_lt {A B : Nat} (hA : W128 A) (hB : W128 B) : A * B < 2 ^ 256 := by
  have a := hA.lt; have b := hB.lt
  have h1 : A ≤ 2 ^ 128 - 1 := by omega
  have h2 : B ≤ 2 ^ 128 - 1 := by omega
  have := Nat.mul_le_mul h1 h2
  omega
theorem mulN_w {A B : Nat} (hA : W128 A) (hB : W128 B) : W256 (mulN A B) := ⟨by rw [mulN_def]; exact mulN_lt hA hB⟩
theorem mul_u64 {x y : Int} (hx : U64 x) (hy : U64 y) : W128 (mulI x y) := ⟨by
  unfold mulI
  have := hx.hi; have := hy.hi; have := hx.lo; have := hy.lo
  have h1 : x.toNat ≤ 2 ^ 64 - 1 := by omega
  have h2 : y.toNat ≤ 2 ^ 64 - 1 := by omega
  have := Nat.mul_le_mul h1 h2
  omega⟩
theorem wide_mid {M : Nat} (h : W128 M) : IsWide 0 (limb 0 M) (limb 1 M) 0 (M * 2 ^ 64) := by
  have := h.lt
  refine ⟨⟨by omega⟩, ?_, ?_, ?_, ?_⟩ <;> unfold limb <;> omega
def mulParts (A B : Nat) : Nat := add256 (add256 (joinN (mulI (limb 1 A) (limb 1 B)) (mulI (limb 0 A) (limb 0 B))) (mulI (limb 1 A) (limb 0 B) * 2 ^ 64)) (mulI (limb 0 A) (limb 1 B) * 2 ^ 64)
theorem mul_parts {A B : Nat} (hA : W128 A) (hB : W128 B) : mulParts A B = A * B := by
  have a := hA.lt; have b := hB.lt
  have hlt : A * B < 2 ^ 256 := by
    have h1 : A ≤ 2 ^ 128 - 1 := by omega
    have h2 : B ≤ 2 ^ 128 - 1 := by omega
    have := Nat.mul_le_mul h1 h2
    omega
  have eA : (limb 0 A).toNat + (limb 1 A).toNat * 2 ^ 64 = A := val2_limb A a
  have eB : (limb 0 B).toNat + (limb 1 B).toNat * 2 ^ 64 = B := val2_limb B b
  unfold mulParts add256 joinN mulI
  simp only [Nat.mod_add_mod]
  generalize (limb 0 A).toNat = x at *
  generalize (limb 1 A).toNat = y at *
  generalize (limb 0 B).toNat = z at *
  generalize (limb 1 B).toNat = t at *
  have e : y * t * 2 ^ 128 + x * z + y * z * 2 ^ 64 + x * t * 2 ^ 64 = A * B := by
    rw [← eA, ← eB, Nat.add_mul, Nat.mul_add, Nat.mul_add]
    have h1 : y * 2 ^ 64 * z = y * z * 2 ^ 64 := by rw [Nat.mul_right_comm]
    have h2 : y * 2 ^ 64 * (t * 2 ^ 64) = y * t * 2 ^ 128 := by rw [Nat.mul_mul_mul_comm]
    have h3 : x * (t * 2 ^ 64) = x * t * 2 ^ 64 := by rw [Nat.mul_assoc]
    omega
  rw [e, Nat.mod_eq_of_lt hlt]

theorem idx0 (a b c d : Value) (w : World) : (Instr.index 85 (.agg #[a, b, c, d]) (.int .i64 0)).run Try.prog w = .ok (.agg #[a, b]) w := by kernel_rfl
theorem idx1 (a b c d : Value) (w : World) : (Instr.index 85 (.agg #[a, b, c, d]) (.int .i64 1)).run Try.prog w = .ok (.agg #[c, d]) w := by kernel_rfl
set_option maxHeartbeats 8000000 in
theorem MulW_limb {A B : Nat} (w : World) :
    Calls Try.prog 17 #[bitsV A, bitsV B] w fun e w' => e = .returned (wideV (mulParts A B)) ∧ Below w.heap.size w w' := by
  go_enter Try.func17, Try.ntmps17
  go_wp2
  refine wp_region_uni 12 (fun W' => Kept w.heap.size w W' ∧ w.heap.size < W'.heap.size ∧ w.heap.size + 1 < W'.heap.size ∧ w.heap.size + 1 + 1 < W'.heap.size ∧ W'.cell? ⟨w.heap.size, 0, none⟩ = some (.int .u64 (limb 1 A)) ∧ W'.cell? ⟨w.heap.size, 1, none⟩ = some (.int .u64 (limb 0 A)) ∧ W'.cell? ⟨w.heap.size + 1, 0, none⟩ = some (.int .u64 (limb 1 B)) ∧ W'.cell? ⟨w.heap.size + 1, 1, none⟩ = some (.int .u64 (limb 0 B)) ∧ W'.cell? ⟨w.heap.size + 1 + 1, 0, none⟩ = some (.int .u64 0) ∧ W'.cell? ⟨w.heap.size + 1 + 1, 1, none⟩ = some (.int .u64 0) ∧ W'.cell? ⟨w.heap.size + 1 + 1, 2, none⟩ = some (.int .u64 0) ∧ W'.cell? ⟨w.heap.size + 1 + 1, 3, none⟩ = some (.int .u64 0) ∧ (∀ o, W'.frozen? ⟨w.heap.size + 1 + 1, o, none⟩ = false)) (w.heap.size + 1 + 1 + 1) (fun _ => #[.int .u64 0, .int .u64 0, .int .u64 0, .int .u64 0]) (by kernel_rfl) (by kernel_rfl) (fun W W' h hb => ⟨h.1.step hb, Nat.lt_of_lt_of_le (h.2.1) hb.size, Nat.lt_of_lt_of_le (h.2.2.1) hb.size, Nat.lt_of_lt_of_le (h.2.2.2.1) hb.size, (hb.cell (h.2.1)).trans (h.2.2.2.2.1), (hb.cell (h.2.1)).trans (h.2.2.2.2.2.1), (hb.cell (h.2.2.1)).trans (h.2.2.2.2.2.2.1), (hb.cell (h.2.2.1)).trans (h.2.2.2.2.2.2.2.1), (hb.cell (h.2.2.2.1)).trans (h.2.2.2.2.2.2.2.2.1), (hb.cell (h.2.2.2.1)).trans (h.2.2.2.2.2.2.2.2.2.1), (hb.cell (h.2.2.2.1)).trans (h.2.2.2.2.2.2.2.2.2.2.1), (hb.cell (h.2.2.2.1)).trans (h.2.2.2.2.2.2.2.2.2.2.2.1), fun o => (hb.frozen (p := ⟨w.heap.size + 1 + 1, o, none⟩) (h.2.2.2.1)).trans ((h.2.2.2.2.2.2.2.2.2.2.2.2) o)⟩) (fun _ h => h.2.2.2.1) (⟨by repeat (first | with_reducible assumption | with_reducible exact Kept.refl _ | with_reducible refine Kept.alloc ?_ _ | with_reducible refine Kept.drew ?_ | with_reducible refine Kept.setCell ?_ (by simp; try omega) _), (by go_simp), (by go_simp), (by go_simp), (by go_simp), (by go_simp), (by go_simp), (by go_simp), (by go_simp), (by go_simp), (by go_simp), (by go_simp), (by intro o; go_simp)⟩) ?_
  simp only [List.take_succ_cons, List.take_zero, List.drop_succ_cons, List.drop_zero]
  refine hu_val ?_ (by rfl) (by rfl) ?_ ?_
  rotate_left
  · intro w hS; (try dsimp only at hS); go_simp; first | done | with_reducible rfl
  simp only [Act.put, List.setIfInBounds_toArray, List.set_cons_zero, List.set_cons_succ]
  refine hu_val ?_ (by rfl) (by rfl) ?_ ?_
  rotate_left
  · intro w hS; (try dsimp only at hS); go_simp; first | done | with_reducible rfl
  simp only [Act.put, List.setIfInBounds_toArray, List.set_cons_zero, List.set_cons_succ]
  refine hu_val ?_ (by rfl) (by rfl) ?_ ?_
  rotate_left
  · intro w hS; (try dsimp only at hS); go_simp; first | done | with_reducible rfl
  simp only [Act.put, List.setIfInBounds_toArray, List.set_cons_zero, List.set_cons_succ]
  refine hu_val ?_ (by rfl) (by rfl) ?_ ?_
  rotate_left
  · intro w hS; (try dsimp only at hS); go_simp; first | done | with_reducible rfl
  simp only [Act.put, List.setIfInBounds_toArray, List.set_cons_zero, List.set_cons_succ]
  refine hu_call ?_ ?_ ?_ (by rfl) (by rfl) ?_ ?_ ?_
  rotate_left 3
  · intro w hS; (try dsimp only at hS); go_simp; first | done | with_reducible rfl | (constructor <;> with_reducible rfl)
  · intro w hS; refine (Mul_at (limb_u64 _ _) (limb_u64 _ _) _).mono ?_; rintro e w' ⟨rfl, hb⟩; constructor; · with_reducible rfl
    · exact hb
  simp only [Act.put, List.setIfInBounds_toArray, List.set_cons_zero, List.set_cons_succ]
  refine hu_val ?_ (by rfl) (by rfl) ?_ ?_
  rotate_left
  · intro w hS; (try dsimp only at hS); go_simp; first | done | with_reducible rfl
  simp only [Act.put, List.setIfInBounds_toArray, List.set_cons_zero, List.set_cons_succ]
  refine hu_val ?_ (by rfl) (by rfl) ?_ ?_
  rotate_left
  · intro w hS; (try dsimp only at hS); go_simp; first | done | with_reducible rfl
  simp only [Act.put, List.setIfInBounds_toArray, List.set_cons_zero, List.set_cons_succ]
  refine hu_val ?_ (by rfl) (by rfl) ?_ ?_
  rotate_left
  · intro w hS; (try dsimp only at hS); go_simp; first | done | with_reducible rfl
  simp only [Act.put, List.setIfInBounds_toArray, List.set_cons_zero, List.set_cons_succ]
  refine hu_val ?_ (by rfl) (by rfl) ?_ ?_
  rotate_left
  · intro w hS; (try dsimp only at hS); go_simp; first | done | with_reducible rfl
  simp only [Act.put, List.setIfInBounds_toArray, List.set_cons_zero, List.set_cons_succ]
  refine hu_call ?_ ?_ ?_ (by rfl) (by rfl) ?_ ?_ ?_
  rotate_left 3
  · intro w hS; (try dsimp only at hS); go_simp; first | done | with_reducible rfl | (constructor <;> with_reducible rfl)
  · intro w hS; refine (Mul_at (limb_u64 _ _) (limb_u64 _ _) _).mono ?_; rintro e w' ⟨rfl, hb⟩; constructor; · with_reducible rfl
    · exact hb
  simp only [Act.put, List.setIfInBounds_toArray, List.set_cons_zero, List.set_cons_succ]
  refine hu_call ?_ ?_ ?_ (by rfl) (by rfl) ?_ ?_ ?_
  rotate_left 3
  · intro w hS; (try dsimp only at hS); go_simp; first | done | with_reducible rfl | (constructor <;> with_reducible rfl)
  · intro w hS; refine (Join_at (IsBits.of (mul_u64 (limb_u64 _ _) (limb_u64 _ _))) (IsBits.of (mul_u64 (limb_u64 _ _) (limb_u64 _ _))) _).mono ?_; rintro e w' ⟨rfl, hb⟩; constructor; · with_reducible rfl
    · exact hb
  simp only [Act.put, List.setIfInBounds_toArray, List.set_cons_zero, List.set_cons_succ]
  refine hu_alloc (by rfl) ⟨by rfl, ?_⟩ ?_
  · intro w; simp only [allocTy]; go_simp
  intro b hb
  simp only [Act.put, List.setIfInBounds_toArray, List.set_cons_zero, List.set_cons_succ]
  intro W1 hS hE
  change wpList _ _ _ _ _ _
  obtain ⟨hk, s0, s1, s2, s3, s4, s5, s6, s7, s8, s9, s10, s11⟩ := hS
  obtain ⟨_, Fb⟩ := hE
  have bc0 := Fb.cell 0 _ rfl
  have bc1 := Fb.cell 1 _ rfl
  have bc2 := Fb.cell 2 _ rfl
  have bc3 := Fb.cell 3 _ rfl
  have bf := Fb.free
  have bl := Fb.lt
  clear Fb
  generalize hJ : joinN (mulI (limb 1 A) (limb 1 B)) (mulI (limb 0 A) (limb 0 B)) = J
  have wJ : W256 J := by rw [← hJ]; exact join_w (mul_u64 (limb_u64 _ _) (limb_u64 _ _)) (mul_u64 (limb_u64 _ _) (limb_u64 _ _))
  have HJ := Lib.hid hJ
  clear hJ
  have hb0 : w.heap.size ≤ b := by omega
  have hb1 : w.heap.size < b := by omega
  have hb2 : w.heap.size + 1 < b := by omega
  have hb3 : w.heap.size + 1 + 1 < b := by omega
  go_wp2
  obtain ⟨X, eX, x0, x1, x2, x3, x4, x5, x6, x7, x8, x9, x10, x11, x12, x13, x14, x15, x16, x17, x18⟩ : ∃ X, X = ((((W1.setCell ⟨b, 0, none⟩ (.int .u64 (limb 0 J))).setCell ⟨b, 1, none⟩ (.int .u64 (limb 1 J))).setCell ⟨b, 2, none⟩ (.int .u64 (limb 2 J))).setCell ⟨b, 3, none⟩ (.int .u64 (limb 3 J))) ∧ Kept w.heap.size w X ∧ w.heap.size < X.heap.size ∧ w.heap.size + 1 < X.heap.size ∧ w.heap.size + 1 + 1 < X.heap.size ∧ b < X.heap.size ∧ X.cell? ⟨b, 0, none⟩ = some (.int .u64 (limb 0 J)) ∧ X.cell? ⟨b, 1, none⟩ = some (.int .u64 (limb 1 J)) ∧ X.cell? ⟨b, 2, none⟩ = some (.int .u64 (limb 2 J)) ∧ X.cell? ⟨b, 3, none⟩ = some (.int .u64 (limb 3 J)) ∧ (∀ o, X.frozen? ⟨b, o, none⟩ = false) ∧ X.cell? ⟨w.heap.size, 0, none⟩ = some (.int .u64 (limb 1 A)) ∧ X.cell? ⟨w.heap.size, 1, none⟩ = some (.int .u64 (limb 0 A)) ∧ X.cell? ⟨w.heap.size + 1, 0, none⟩ = some (.int .u64 (limb 1 B)) ∧ X.cell? ⟨w.heap.size + 1, 1, none⟩ = some (.int .u64 (limb 0 B)) ∧ X.cell? ⟨w.heap.size + 1 + 1, 0, none⟩ = some (.int .u64 0) ∧ X.cell? ⟨w.heap.size + 1 + 1, 1, none⟩ = some (.int .u64 0) ∧ X.cell? ⟨w.heap.size + 1 + 1, 2, none⟩ = some (.int .u64 0) ∧ X.cell? ⟨w.heap.size + 1 + 1, 3, none⟩ = some (.int .u64 0) ∧ (∀ o, X.frozen? ⟨w.heap.size + 1 + 1, o, none⟩ = false) := ⟨_, rfl, set4_kept hk (by omega), (by rw [show (((((W1.setCell ⟨b, 0, none⟩ (.int .u64 (limb 0 J))).setCell ⟨b, 1, none⟩ (.int .u64 (limb 1 J))).setCell ⟨b, 2, none⟩ (.int .u64 (limb 2 J))).setCell ⟨b, 3, none⟩ (.int .u64 (limb 3 J)))).heap.size = W1.heap.size from set4_size]; omega), (by rw [show (((((W1.setCell ⟨b, 0, none⟩ (.int .u64 (limb 0 J))).setCell ⟨b, 1, none⟩ (.int .u64 (limb 1 J))).setCell ⟨b, 2, none⟩ (.int .u64 (limb 2 J))).setCell ⟨b, 3, none⟩ (.int .u64 (limb 3 J)))).heap.size = W1.heap.size from set4_size]; omega), (by rw [show (((((W1.setCell ⟨b, 0, none⟩ (.int .u64 (limb 0 J))).setCell ⟨b, 1, none⟩ (.int .u64 (limb 1 J))).setCell ⟨b, 2, none⟩ (.int .u64 (limb 2 J))).setCell ⟨b, 3, none⟩ (.int .u64 (limb 3 J)))).heap.size = W1.heap.size from set4_size]; omega), (by rw [show (((((W1.setCell ⟨b, 0, none⟩ (.int .u64 (limb 0 J))).setCell ⟨b, 1, none⟩ (.int .u64 (limb 1 J))).setCell ⟨b, 2, none⟩ (.int .u64 (limb 2 J))).setCell ⟨b, 3, none⟩ (.int .u64 (limb 3 J)))).heap.size = W1.heap.size from set4_size]; omega), (set4_cells bc0 bc1 bc2 bc3).1, (set4_cells bc0 bc1 bc2 bc3).2.1, (set4_cells bc0 bc1 bc2 bc3).2.2.1, (set4_cells bc0 bc1 bc2 bc3).2.2.2, (fun o => (set4_frozen _).trans (bf o)), (set4_other (by omega)).trans s3, (set4_other (by omega)).trans s4, (set4_other (by omega)).trans s5, (set4_other (by omega)).trans s6, (set4_other (by omega)).trans s7, (set4_other (by omega)).trans s8, (set4_other (by omega)).trans s9, (set4_other (by omega)).trans s10, (fun o => (set4_frozen _).trans (s11 o))⟩
  rw [← eX]
  clear eX
  clear hk s0 s1 s2 s3 s4 s5 s6 s7 s8 s9 s10 s11 bc0 bc1 bc2 bc3 bf bl
  refine wp_region_uni 12 (fun W' => Kept w.heap.size w W' ∧ w.heap.size < W'.heap.size ∧ w.heap.size + 1 < W'.heap.size ∧ w.heap.size + 1 + 1 < W'.heap.size ∧ b < W'.heap.size ∧ W'.cell? ⟨w.heap.size, 0, none⟩ = some (.int .u64 (limb 1 A)) ∧ W'.cell? ⟨w.heap.size, 1, none⟩ = some (.int .u64 (limb 0 A)) ∧ W'.cell? ⟨w.heap.size + 1, 0, none⟩ = some (.int .u64 (limb 1 B)) ∧ W'.cell? ⟨w.heap.size + 1, 1, none⟩ = some (.int .u64 (limb 0 B)) ∧ W'.cell? ⟨w.heap.size + 1 + 1, 0, none⟩ = some (.int .u64 0) ∧ W'.cell? ⟨w.heap.size + 1 + 1, 1, none⟩ = some (.int .u64 0) ∧ W'.cell? ⟨w.heap.size + 1 + 1, 2, none⟩ = some (.int .u64 0) ∧ W'.cell? ⟨w.heap.size + 1 + 1, 3, none⟩ = some (.int .u64 0) ∧ W'.cell? ⟨b, 0, none⟩ = some (.int .u64 (limb 0 J)) ∧ W'.cell? ⟨b, 1, none⟩ = some (.int .u64 (limb 1 J)) ∧ W'.cell? ⟨b, 2, none⟩ = some (.int .u64 (limb 2 J)) ∧ W'.cell? ⟨b, 3, none⟩ = some (.int .u64 (limb 3 J)) ∧ (∀ o, W'.frozen? ⟨w.heap.size + 1 + 1, o, none⟩ = false) ∧ (∀ o, W'.frozen? ⟨b, o, none⟩ = false)) (b + 1) (fun _ => #[]) (by kernel_rfl) (by kernel_rfl) (fun W W' h hb => ⟨h.1.step hb, Nat.lt_of_lt_of_le (h.2.1) hb.size, Nat.lt_of_lt_of_le (h.2.2.1) hb.size, Nat.lt_of_lt_of_le (h.2.2.2.1) hb.size, Nat.lt_of_lt_of_le (h.2.2.2.2.1) hb.size, (hb.cell (h.2.1)).trans (h.2.2.2.2.2.1), (hb.cell (h.2.1)).trans (h.2.2.2.2.2.2.1), (hb.cell (h.2.2.1)).trans (h.2.2.2.2.2.2.2.1), (hb.cell (h.2.2.1)).trans (h.2.2.2.2.2.2.2.2.1), (hb.cell (h.2.2.2.1)).trans (h.2.2.2.2.2.2.2.2.2.1), (hb.cell (h.2.2.2.1)).trans (h.2.2.2.2.2.2.2.2.2.2.1), (hb.cell (h.2.2.2.1)).trans (h.2.2.2.2.2.2.2.2.2.2.2.1), (hb.cell (h.2.2.2.1)).trans (h.2.2.2.2.2.2.2.2.2.2.2.2.1), (hb.cell (h.2.2.2.2.1)).trans (h.2.2.2.2.2.2.2.2.2.2.2.2.2.1), (hb.cell (h.2.2.2.2.1)).trans (h.2.2.2.2.2.2.2.2.2.2.2.2.2.2.1), (hb.cell (h.2.2.2.2.1)).trans (h.2.2.2.2.2.2.2.2.2.2.2.2.2.2.2.1), (hb.cell (h.2.2.2.2.1)).trans (h.2.2.2.2.2.2.2.2.2.2.2.2.2.2.2.2.1), fun o => (hb.frozen (p := ⟨w.heap.size + 1 + 1, o, none⟩) (h.2.2.2.1)).trans ((h.2.2.2.2.2.2.2.2.2.2.2.2.2.2.2.2.2.1) o), fun o => (hb.frozen (p := ⟨b, o, none⟩) (h.2.2.2.2.1)).trans ((h.2.2.2.2.2.2.2.2.2.2.2.2.2.2.2.2.2.2) o)⟩) (fun _ h => h.2.2.2.2.1) (⟨x0.drew, x1, x2, x3, x4, x10, x11, x12, x13, x14, x15, x16, x17, x5, x6, x7, x8, x18, x9⟩) ?_
  simp only [List.take_succ_cons, List.take_zero, List.drop_succ_cons, List.drop_zero]
  refine hu_val ?_ (by rfl) (by rfl) ?_ ?_
  rotate_left
  · intro w hS; (try dsimp only at hS); go_simp; first | done | with_reducible rfl
  simp only [Act.put, List.setIfInBounds_toArray, List.set_cons_zero, List.set_cons_succ]
  refine hu_val ?_ (by rfl) (by rfl) ?_ ?_
  rotate_left
  · intro w hS; (try dsimp only at hS); go_simp; first | done | with_reducible rfl
  simp only [Act.put, List.setIfInBounds_toArray, List.set_cons_zero, List.set_cons_succ]
  refine hu_val ?_ (by rfl) (by rfl) ?_ ?_
  rotate_left
  · intro w hS; (try dsimp only at hS); go_simp; first | done | with_reducible rfl
  simp only [Act.put, List.setIfInBounds_toArray, List.set_cons_zero, List.set_cons_succ]
  refine hu_val ?_ (by rfl) (by rfl) ?_ ?_
  rotate_left
  · intro w hS; (try dsimp only at hS); go_simp; first | done | with_reducible rfl
  simp only [Act.put, List.setIfInBounds_toArray, List.set_cons_zero, List.set_cons_succ]
  refine hu_call ?_ ?_ ?_ (by rfl) (by rfl) ?_ ?_ ?_
  rotate_left 3
  · intro w hS; (try dsimp only at hS); go_simp; first | done | with_reducible rfl | (constructor <;> with_reducible rfl)
  · intro w hS; refine (Mul_at (limb_u64 _ _) (limb_u64 _ _) _).mono ?_; rintro e w' ⟨rfl, hb⟩; constructor; · with_reducible rfl
    · exact hb
  simp only [Act.put, List.setIfInBounds_toArray, List.set_cons_zero, List.set_cons_succ]
  refine hu_val ?_ (by rfl) (by rfl) ?_ ?_
  rotate_left
  · intro w hS; (try dsimp only at hS); go_simp; first | done | with_reducible rfl
  simp only [Act.put, List.setIfInBounds_toArray, List.set_cons_zero, List.set_cons_succ]
  refine hu_val ?_ (by rfl) (by rfl) ?_ ?_
  rotate_left
  · intro w hS; (try dsimp only at hS); go_simp; first | done | with_reducible rfl
  simp only [Act.put, List.setIfInBounds_toArray, List.set_cons_zero, List.set_cons_succ]
  refine hu_val ?_ (by rfl) (by rfl) ?_ ?_
  rotate_left
  · intro w hS; (try dsimp only at hS); go_simp; first | done | with_reducible rfl
  simp only [Act.put, List.setIfInBounds_toArray, List.set_cons_zero, List.set_cons_succ]
  refine hu_val ?_ (by rfl) (by rfl) ?_ ?_
  rotate_left
  · intro w hS; (try dsimp only at hS); go_simp; first | done | with_reducible rfl
  simp only [Act.put, List.setIfInBounds_toArray, List.set_cons_zero, List.set_cons_succ]
  refine hu_call ?_ ?_ ?_ (by rfl) (by rfl) ?_ ?_ ?_
  rotate_left 3
  · intro w hS; (try dsimp only at hS); go_simp; first | done | with_reducible rfl | (constructor <;> with_reducible rfl)
  · intro w hS; refine (Mul_at (limb_u64 _ _) (limb_u64 _ _) _).mono ?_; rintro e w' ⟨rfl, hb⟩; constructor; · with_reducible rfl
    · exact hb
  simp only [Act.put, List.setIfInBounds_toArray, List.set_cons_zero, List.set_cons_succ]
  refine hu_val ?_ (by rfl) (by rfl) ?_ ?_
  rotate_left
  · intro w hS; (try dsimp only at hS); go_simp; first | done | with_reducible rfl
  simp only [Act.put, List.setIfInBounds_toArray, List.set_cons_zero, List.set_cons_succ]
  refine hu_val ?_ (by rfl) (by rfl) ?_ ?_
  rotate_left
  · intro w hS; (try dsimp only at hS); go_simp; first | done | with_reducible rfl
  simp only [Act.put, List.setIfInBounds_toArray, List.set_cons_zero, List.set_cons_succ]
  intro W2 hS hE
  change wpList _ _ _ _ _ _
  obtain ⟨hk, s0, s1, s2, s3, s4, s5, s6, s7, s8, s9, s10, s11, s12, s13, s14, s15, s16, s17⟩ := hS
  clear hE
  have Bb : Box W2 b #[.int .u64 (limb 0 J), .int .u64 (limb 1 J), .int .u64 (limb 2 J), .int .u64 (limb 3 J)] := box_mk4 s3 s12 s13 s14 s15 s17
  have Br : Box W2 (w.heap.size + 1 + 1) #[.int .u64 0, .int .u64 0, .int .u64 0, .int .u64 0] := box_mk4 s2 s8 s9 s10 s11 s16
  clear s0 s1 s2 s3 s4 s5 s6 s7 s8 s9 s10 s11 s12 s13 s14 s15 s16 s17 x0 x1 x2 x3 x4 x5 x6 x7 x8 x9 x10 x11 x12 x13 x14 x15 x16 x17 x18
  have Bbc := Bb.cell
  have Bbl := Bb.lt
  have Bbf := Bb.free
  have Bbl1 : b < W2.heap.size + 1 := by omega
  have Bbl2 : b < W2.heap.size + 1 + 1 := by omega
  have Bbl3 : b < W2.heap.size + 1 + 1 + 1 := by omega
  have Bb0 := Bbc 0 _ rfl
  have Bb1 := Bbc 1 _ rfl
  have Bb2 := Bbc 2 _ rfl
  have Bb3 := Bbc 3 _ rfl
  clear Bbc
  have Brc := Br.cell
  have Brl := Br.lt
  have Brf := Br.free
  have Brl1 : w.heap.size + 1 + 1 < W2.heap.size + 1 := by omega
  have Brl2 : w.heap.size + 1 + 1 < W2.heap.size + 1 + 1 := by omega
  have Brl3 : w.heap.size + 1 + 1 < W2.heap.size + 1 + 1 + 1 := by omega
  have Br0 := Brc 0 _ rfl
  have Br1 := Brc 1 _ rfl
  have Br2 := Brc 2 _ rfl
  have Br3 := Brc 3 _ rfl
  clear Brc
  have i0 := idx0
  have i1 := idx1
  go_wp2
  refine wp_loop_rounds 3 ?_
  rw [rounds_succ]
  go_wp2_with fail
  (with_reducible refine (AddW_at (IsWide.of wJ) (wide_mid (mul_u64 (limb_u64 _ _) (limb_u64 _ _))) _).mono ?_)
  rintro e w1 ⟨rfl, hb⟩
  have Bb' : Box w1 (b) _ := Box.call hb (by repeat (first | with_reducible assumption | with_reducible apply Box.set10 | with_reducible apply Box.set20 | with_reducible apply Box.set21 | with_reducible apply Box.set40 | with_reducible apply Box.set41 | with_reducible apply Box.set42 | with_reducible apply Box.set43 | with_reducible apply Box.set50 | with_reducible apply Box.set51 | with_reducible apply Box.set52 | with_reducible apply Box.set53 | with_reducible apply Box.set54 | with_reducible apply Box.drew | (with_reducible apply Box.newAt; (try simp only [World.size_alloc, World.size_setCell, World.size_drew]); done) | with_reducible apply Box.alloc | (with_reducible apply Box.other; case hne => ((try simp only [World.size_alloc, World.size_setCell, World.size_drew]); omega))))
  have Br' : Box w1 (w.heap.size + 1 + 1) _ := Box.call hb (by repeat (first | with_reducible assumption | with_reducible apply Box.set10 | with_reducible apply Box.set20 | with_reducible apply Box.set21 | with_reducible apply Box.set40 | with_reducible apply Box.set41 | with_reducible apply Box.set42 | with_reducible apply Box.set43 | with_reducible apply Box.set50 | with_reducible apply Box.set51 | with_reducible apply Box.set52 | with_reducible apply Box.set53 | with_reducible apply Box.set54 | with_reducible apply Box.drew | (with_reducible apply Box.newAt; (try simp only [World.size_alloc, World.size_setCell, World.size_drew]); done) | with_reducible apply Box.alloc | (with_reducible apply Box.other; case hne => ((try simp only [World.size_alloc, World.size_setCell, World.size_drew]); omega))))
  have hk' : Kept w.heap.size w w1 := Kept.step (by repeat (first | with_reducible exact hk | with_reducible exact Kept.refl _ | with_reducible refine Kept.alloc ?_ _ | with_reducible refine Kept.drew ?_ | with_reducible refine Kept.setCell ?_ (by simp only [World.size_alloc, World.size_setCell, World.size_drew]; omega) _)) hb
  clear hk
  clear Bbl1 Bbl2 Bbl3 Bbf Bb0 Bb1 Bb2 Bb3
  clear Brl1 Brl2 Brl3 Brf Br0 Br1 Br2 Br3
  clear Bb
  clear Br
  have Bb := Bb'
  clear Bb'
  have Br := Br'
  clear Br'
  have hk := hk'
  clear hk' hb
  have hz_w1 := hk.size
  have Bbc := Bb.cell
  have Bbl := Bb.lt
  have Bbf := Bb.free
  have Bbl1 : b < w1.heap.size + 1 := by omega
  have Bbl2 : b < w1.heap.size + 1 + 1 := by omega
  have Bbl3 : b < w1.heap.size + 1 + 1 + 1 := by omega
  have Bb0 := Bbc 0 _ rfl
  have Bb1 := Bbc 1 _ rfl
  have Bb2 := Bbc 2 _ rfl
  have Bb3 := Bbc 3 _ rfl
  clear Bbc
  have Brc := Br.cell
  have Brl := Br.lt
  have Brf := Br.free
  have Brl1 : w.heap.size + 1 + 1 < w1.heap.size + 1 := by omega
  have Brl2 : w.heap.size + 1 + 1 < w1.heap.size + 1 + 1 := by omega
  have Brl3 : w.heap.size + 1 + 1 < w1.heap.size + 1 + 1 + 1 := by omega
  have Br0 := Brc 0 _ rfl
  have Br1 := Brc 1 _ rfl
  have Br2 := Brc 2 _ rfl
  have Br3 := Brc 3 _ rfl
  clear Brc
  go_wp2
  rw [rounds_succ]
  go_wp2_with fail
  (with_reducible refine (AddW_at (IsWide.of (add256_w _ _)) (wide_mid (mul_u64 (limb_u64 _ _) (limb_u64 _ _))) _).mono ?_)
  rintro e w2 ⟨rfl, hb⟩
  have Bb' : Box w2 (b) _ := Box.call hb (by repeat (first | with_reducible assumption | with_reducible apply Box.set10 | with_reducible apply Box.set20 | with_reducible apply Box.set21 | with_reducible apply Box.set40 | with_reducible apply Box.set41 | with_reducible apply Box.set42 | with_reducible apply Box.set43 | with_reducible apply Box.set50 | with_reducible apply Box.set51 | with_reducible apply Box.set52 | with_reducible apply Box.set53 | with_reducible apply Box.set54 | with_reducible apply Box.drew | (with_reducible apply Box.newAt; (try simp only [World.size_alloc, World.size_setCell, World.size_drew]); done) | with_reducible apply Box.alloc | (with_reducible apply Box.other; case hne => ((try simp only [World.size_alloc, World.size_setCell, World.size_drew]); omega))))
  have Br' : Box w2 (w.heap.size + 1 + 1) _ := Box.call hb (by repeat (first | with_reducible assumption | with_reducible apply Box.set10 | with_reducible apply Box.set20 | with_reducible apply Box.set21 | with_reducible apply Box.set40 | with_reducible apply Box.set41 | with_reducible apply Box.set42 | with_reducible apply Box.set43 | with_reducible apply Box.set50 | with_reducible apply Box.set51 | with_reducible apply Box.set52 | with_reducible apply Box.set53 | with_reducible apply Box.set54 | with_reducible apply Box.drew | (with_reducible apply Box.newAt; (try simp only [World.size_alloc, World.size_setCell, World.size_drew]); done) | with_reducible apply Box.alloc | (with_reducible apply Box.other; case hne => ((try simp only [World.size_alloc, World.size_setCell, World.size_drew]); omega))))
  have hk' : Kept w.heap.size w w2 := Kept.step (by repeat (first | with_reducible exact hk | with_reducible exact Kept.refl _ | with_reducible refine Kept.alloc ?_ _ | with_reducible refine Kept.drew ?_ | with_reducible refine Kept.setCell ?_ (by simp only [World.size_alloc, World.size_setCell, World.size_drew]; omega) _)) hb
  clear hk
  clear Bbl1 Bbl2 Bbl3 Bbf Bb0 Bb1 Bb2 Bb3
  clear Brl1 Brl2 Brl3 Brf Br0 Br1 Br2 Br3
  clear Bb
  clear Br
  have Bb := Bb'
  clear Bb'
  have Br := Br'
  clear Br'
  have hk := hk'
  clear hk' hb
  have hz_w2 := hk.size
  have Bbc := Bb.cell
  have Bbl := Bb.lt
  have Bbf := Bb.free
  have Bbl1 : b < w2.heap.size + 1 := by omega
  have Bbl2 : b < w2.heap.size + 1 + 1 := by omega
  have Bbl3 : b < w2.heap.size + 1 + 1 + 1 := by omega
  have Bb0 := Bbc 0 _ rfl
  have Bb1 := Bbc 1 _ rfl
  have Bb2 := Bbc 2 _ rfl
  have Bb3 := Bbc 3 _ rfl
  clear Bbc
  have Brc := Br.cell
  have Brl := Br.lt
  have Brf := Br.free
  have Brl1 : w.heap.size + 1 + 1 < w2.heap.size + 1 := by omega
  have Brl2 : w.heap.size + 1 + 1 < w2.heap.size + 1 + 1 := by omega
  have Brl3 : w.heap.size + 1 + 1 < w2.heap.size + 1 + 1 + 1 := by omega
  have Br0 := Brc 0 _ rfl
  have Br1 := Brc 1 _ rfl
  have Br2 := Brc 2 _ rfl
  have Br3 := Brc 3 _ rfl
  clear Brc
  go_wp2
  rw [rounds_succ]
  go_wp2
  refine bodyPost_ret (v := wideV (add256 (add256 J (mulI (limb 1 A) (limb 0 B) * 2 ^ 64)) (mulI (limb 0 A) (limb 1 B) * 2 ^ 64))) (by simp [results, Try.results17, go_sem, Br0, Br1, Br2, Br3]) rfl ⟨by rw [mulParts, HJ.out], ?_⟩
  refine Kept.below ?_; repeat (first | with_reducible exact hk | with_reducible exact Kept.refl _ | with_reducible refine Kept.alloc ?_ _ | with_reducible refine Kept.drew ?_ | with_reducible refine Kept.setCell ?_ (by simp only [World.size_alloc, World.size_setCell, World.size_drew]; omega) _)
theorem MulW_at {a1 a0 b1 b0 : Int} {A B : Nat} (hA : IsBits a1 a0 A) (hB : IsBits b1 b0 B) (w : World) :
    Calls Try.prog 17 #[.agg #[.int .u64 a1, .int .u64 a0], .agg #[.int .u64 b1, .int .u64 b0]] w fun e w' => e = .returned (wideV (mulN A B)) ∧ Below w.heap.size w w' := by
  rw [hA.hi, hA.lo, hB.hi, hB.lo, mulN_def, ← mul_parts hA.w hB.w]
  exact MulW_limb w
end Go.Proofs.Ythpmbfdbknikcaa
