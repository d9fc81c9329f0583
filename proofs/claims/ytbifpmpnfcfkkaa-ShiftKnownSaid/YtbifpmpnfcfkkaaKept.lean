/- How old memory is carried through a walk: 'Kept B W w': below block B the world w is as W was, and w has at least B blocks. -/
import Derived.WalkKit
import Derived.Lib.Hide
namespace Go.Proofs.Ytbifpmpnfcfkkaa
open Go.RowKit

structure Kept (B : Nat) (W w : World) : Prop where
  below : Below B W w
  size : B ≤ w.heap.size

theorem Kept.refl (w : World) : Kept w.heap.size w w := ⟨Below.refl _ _, Nat.le_refl _⟩
theorem Kept.alloc {B : Nat} {W w : World} (h : Kept B W w) (o : Obj) : Kept B W (w.alloc o) := ⟨h.below.alloc h.size o, by simp; exact Nat.le_succ_of_le h.size⟩
theorem Kept.step {B : Nat} {W w w' : World} (h : Kept B W w) (k : Below w.heap.size w w') : Kept B W w' := ⟨h.below.trans (k.mono h.size), Nat.le_trans h.size k.size⟩
theorem Kept.drew {B : Nat} {W w : World} (h : Kept B W w) : Kept B W w.drew := ⟨h.below.drew, h.size⟩
theorem Kept.setCell {B : Nat} {W w : World} (h : Kept B W w) {p : Addr} (hp : B ≤ p.block) (v : Value) : Kept B W (w.setCell p v) := ⟨h.below.setCell hp v, by have := h.size; simpa [World.setCell] using this⟩

theorem ret_bool {a b : Bool} (h : a = b) : Ending.returned (.bool a) = .returned (.bool b) := by rw [h]
theorem ret_int {k : IntKind} {a b : Int} (h : a = b) : Ending.returned (.int k a) = .returned (.int k b) := by rw [h]
/-- a contract whose answer is known to be b -/
theorem Calls.known {P : Program} {f : FuncId} {args : Array Value} {w : World} {a : Bool} {R : World → Prop} (b : Bool) (h : a = b)
    (c : Calls P f args w fun e w' => e = .returned (.bool a) ∧ R w') : Calls P f args w fun e w' => e = .returned (.bool b) ∧ R w' := by
  subst h; exact c
/-- what a call that keeps old memory gives the walk: rewrite rules, for cells, for marks, and for the numbers of blocks -/
theorem bcell {W w1 : World} (hb : Below W.heap.size W w1) : (∀ b o, b < W.heap.size → w1.cell? ⟨b, o, none⟩ = W.cell? ⟨b, o, none⟩) ∧ (∀ b o, b < W.heap.size → w1.frozen? ⟨b, o, none⟩ = W.frozen? ⟨b, o, none⟩) ∧
    (∀ b, b < W.heap.size → b < w1.heap.size) ∧ (∀ b, b < W.heap.size → b ≤ w1.heap.size) ∧ (∀ b k, b < W.heap.size → b ≤ w1.heap.size + k) :=
  ⟨fun b o h => hb.cell (p := ⟨b, o, none⟩) h, fun b o h => hb.frozen (p := ⟨b, o, none⟩) h, fun _ h => Nat.lt_of_lt_of_le h hb.size, fun _ h => Nat.le_of_lt (Nat.lt_of_lt_of_le h hb.size),
    fun _ _ h => Nat.le_trans (Nat.le_of_lt (Nat.lt_of_lt_of_le h hb.size)) (Nat.le_add_right _ _)⟩

/-- WHAT IS KNOWN OF THE CALL's OWN BLOCKS in the world w: a row for each call made so far: the blocks that were laid ahead of it (from lo on, below W's size) are in w as they were in W -/
def Known : List (Nat × World) → World → Prop
  | [], _ => True
  | (lo, W) :: l, w => (∀ b o, lo ≤ b → b < W.heap.size → w.cell? ⟨b, o, none⟩ = W.cell? ⟨b, o, none⟩) ∧ (∀ b o, lo ≤ b → b < W.heap.size → w.frozen? ⟨b, o, none⟩ = W.frozen? ⟨b, o, none⟩) ∧
    (∀ b, lo ≤ b → b < W.heap.size → b < w.heap.size) ∧ (∀ b, lo ≤ b → b < W.heap.size → b ≤ w.heap.size) ∧ (∀ b k, lo ≤ b → b < W.heap.size → b ≤ w.heap.size + k) ∧ (∀ b, lo ≤ b → b < W.heap.size → b < w.heap.size + 1) ∧ (∀ b, lo ≤ b → b < W.heap.size → b < w.heap.size + 1 + 1) ∧ (∀ b, lo ≤ b → b < W.heap.size → b < w.heap.size + 1 + 1 + 1) ∧ Known l w

theorem Known.later {w w' : World} (hb : Below w.heap.size w w') : ∀ {l : List (Nat × World)}, Known l w → Known l w'
  | [], _ => trivial
  | (lo, W) :: l, ⟨h1, h2, h3, _, _, _, _, _, h7⟩ =>
    have s : ∀ b, lo ≤ b → b < W.heap.size → b < w'.heap.size := fun b a c => Nat.lt_of_lt_of_le (h3 b a c) hb.size
    ⟨fun b o a c => (hb.cell (p := ⟨b, o, none⟩) (h3 b a c)).trans (h1 b o a c), fun b o a c => (hb.frozen (p := ⟨b, o, none⟩) (h3 b a c)).trans (h2 b o a c), s,
      fun b a c => Nat.le_of_lt (s b a c), fun b _ a c => Nat.le_trans (Nat.le_of_lt (s b a c)) (Nat.le_add_right _ _), fun b a c => by have := s b a c; omega, fun b a c => by have := s b a c; omega, fun b a c => by have := s b a c; omega, later hb h7⟩

theorem Known.step {l : List (Nat × World)} {w W w' : World} (h : Known l w) (hW : Below w.heap.size w W) (hb : Below W.heap.size W w') : Known ((w.heap.size, W) :: l) w' :=
  have s : ∀ b, w.heap.size ≤ b → b < W.heap.size → b < w'.heap.size := fun _ _ c => Nat.lt_of_lt_of_le c hb.size
  ⟨fun b o _ c => hb.cell (p := ⟨b, o, none⟩) c, fun b o _ c => hb.frozen (p := ⟨b, o, none⟩) c, s, fun b a c => Nat.le_of_lt (s b a c), fun b _ a c => Nat.le_trans (Nat.le_of_lt (s b a c)) (Nat.le_add_right _ _),
    fun b a c => by have := s b a c; omega, fun b a c => by have := s b a c; omega, fun b a c => by have := s b a c; omega, (h.later hW).later hb⟩
theorem Known.nil (w : World) : Known [] w := trivial
/-- a call behind a new block keeps what lay ahead of that block -/
theorem below_alloc {w w' : World} {o : Obj} (h : Below (w.alloc o).heap.size (w.alloc o) w') : Below w.heap.size w w' :=
  ((Below.refl _ _).alloc (Nat.le_refl _) o).trans (h.mono (by simp))

theorem kept_of {B : Nat} {W w : World} {p : Prop} (h : Kept B W w ∧ p) : Below B W w := h.1.below

/-! small orders that the walk meets -/
theorem nlt2 (n : Nat) : (n < n + 1 + 1) = True := by simp only [eq_iff_iff, iff_true]; omega
theorem nle2 (n : Nat) : (n ≤ n + 1 + 1) = True := by simp only [eq_iff_iff, iff_true]; omega
theorem nlt3 (n : Nat) : (n < n + 1 + 1 + 1) = True := by simp only [eq_iff_iff, iff_true]; omega
theorem nle3 (n : Nat) : (n ≤ n + 1 + 1 + 1) = True := by simp only [eq_iff_iff, iff_true]; omega
theorem nlt4 (n : Nat) : (n < n + 1 + 1 + 1 + 1) = True := by simp only [eq_iff_iff, iff_true]; omega
theorem nle4 (n : Nat) : (n ≤ n + 1 + 1 + 1 + 1) = True := by simp only [eq_iff_iff, iff_true]; omega
theorem nlt5 (n : Nat) : (n < n + 1 + 1 + 1 + 1 + 1) = True := by simp only [eq_iff_iff, iff_true]; omega
theorem nle5 (n : Nat) : (n ≤ n + 1 + 1 + 1 + 1 + 1) = True := by simp only [eq_iff_iff, iff_true]; omega
theorem nlt6 (n : Nat) : (n < n + 1 + 1 + 1 + 1 + 1 + 1) = True := by simp only [eq_iff_iff, iff_true]; omega
theorem nle6 (n : Nat) : (n ≤ n + 1 + 1 + 1 + 1 + 1 + 1) = True := by simp only [eq_iff_iff, iff_true]; omega
theorem nlt7 (n : Nat) : (n < n + 1 + 1 + 1 + 1 + 1 + 1 + 1) = True := by simp only [eq_iff_iff, iff_true]; omega
theorem nle7 (n : Nat) : (n ≤ n + 1 + 1 + 1 + 1 + 1 + 1 + 1) = True := by simp only [eq_iff_iff, iff_true]; omega
theorem nlt8 (n : Nat) : (n < n + 1 + 1 + 1 + 1 + 1 + 1 + 1 + 1) = True := by simp only [eq_iff_iff, iff_true]; omega
theorem nle8 (n : Nat) : (n ≤ n + 1 + 1 + 1 + 1 + 1 + 1 + 1 + 1) = True := by simp only [eq_iff_iff, iff_true]; omega
attribute [go_sem] nlt2 nle2 nlt3 nle3 nlt4 nle4 nlt5 nle5 nlt6 nle6 nlt7 nle7 nlt8 nle8
end Go.Proofs.Ytbifpmpnfcfkkaa
