/- How old memory is carried through a walk: 'Kept B W w': below block B the world w is as W was, and w has at least B blocks. -/
import Derived.WalkKit
import Derived.Lib.Hide
set_option linter.unusedVariables false
set_option linter.unusedSimpArgs false
namespace Go.Proofs.Ythpmbfdbknikcaa
open Go.RowKit

structure Kept (B : Nat) (W w : World) : Prop where
  below : Below B W w
  size : B ≤ w.heap.size

theorem Kept.refl (w : World) : Kept w.heap.size w w := ⟨Below.refl _ _, Nat.le_refl _⟩
theorem Kept.alloc {B : Nat} {W w : World} (h : Kept B W w) (o : Obj) : Kept B W (w.alloc o) := ⟨h.below.alloc h.size o, by simp; exact Nat.le_succ_of_le h.size⟩
theorem Kept.step {B : Nat} {W w w' : World} (h : Kept B W w) (k : Below w.heap.size w w') : Kept B W w' := ⟨h.below.trans (k.mono h.size), Nat.le_trans h.size k.size⟩
theorem Kept.drew {B : Nat} {W w : World} (h : Kept B W w) : Kept B W w.drew := ⟨h.below.drew, h.size⟩
theorem Kept.setCell {B : Nat} {W w : World} (h : Kept B W w) {p : Addr} (hp : B ≤ p.block) (v : Value) : Kept B W (w.setCell p v) := ⟨h.below.setCell hp v, by have := h.size; simpa [World.setCell] using this⟩

theorem ret_bool {a b : Bool} (h : a = b) : Ending.returned (.bool a) = .returned (.bool b) := by rw [h]
theorem ret_int {k : IntKind} {a b : Int} (h : a = b) : Ending.returned (.int k a) = .returned (.int k b) := by rw [h]
/-- a contract whose answer is known to be b -/
theorem Calls.known {P : Program} {f : FuncId} {args : Array Value} {w : World} {a : Bool} {R : World → Prop} (b : Bool) (h : a = b)
    (c : Calls P f args w fun e w' => e = .returned (.bool a) ∧ R w') : Calls P f args w fun e w' => e = .returned (.bool b) ∧ R w' := by
  subst h; exact c
/-- a contract whose answer has another name -/
theorem calls_to {P : Program} {f : FuncId} {args : Array Value} {w : World} {U V : Value} {R : World → Prop} (c : Calls P f args w fun e w' => e = .returned U ∧ R w') (h : U = V) :
    Calls P f args w fun e w' => e = .returned V ∧ R w' := h ▸ c
/-- what a call that keeps old memory gives the walk: rewrite rules, for cells, for marks, and for the numbers of blocks -/
theorem bcell {W w1 : World} (hb : Below W.heap.size W w1) : (∀ b o, b < W.heap.size → w1.cell? ⟨b, o, none⟩ = W.cell? ⟨b, o, none⟩) ∧ (∀ b o, b < W.heap.size → w1.frozen? ⟨b, o, none⟩ = W.frozen? ⟨b, o, none⟩) ∧
    (∀ b, b < W.heap.size → b < w1.heap.size) ∧ (∀ b, b < W.heap.size → b ≤ w1.heap.size) ∧ (∀ b k, b < W.heap.size → b ≤ w1.heap.size + k) :=
  ⟨fun b o h => hb.cell (p := ⟨b, o, none⟩) h, fun b o h => hb.frozen (p := ⟨b, o, none⟩) h, fun _ h => Nat.lt_of_lt_of_le h hb.size, fun _ h => Nat.le_of_lt (Nat.lt_of_lt_of_le h hb.size),
    fun _ _ h => Nat.le_trans (Nat.le_of_lt (Nat.lt_of_lt_of_le h hb.size)) (Nat.le_add_right _ _)⟩

/-- WHAT IS KNOWN OF THE CALL's OWN BLOCKS in the world w: a row for each call made so far: the blocks that were laid ahead of it (from lo on, below W's size) are in w as they were in W -/
def Known : List (Nat × World) → World → Prop
  | [], _ => True
  | (lo, W) :: l, w => (∀ b o, lo ≤ b → b < W.heap.size → w.cell? ⟨b, o, none⟩ = W.cell? ⟨b, o, none⟩) ∧ (∀ b o, lo ≤ b → b < W.heap.size → w.frozen? ⟨b, o, none⟩ = W.frozen? ⟨b, o, none⟩) ∧
    (∀ b, lo ≤ b → b < W.heap.size → b < w.heap.size) ∧ (∀ b, lo ≤ b → b < W.heap.size → b ≤ w.heap.size) ∧ (∀ b k, lo ≤ b → b < W.heap.size → b ≤ w.heap.size + k) ∧ (∀ b, lo ≤ b → b < W.heap.size → b < w.heap.size + 1) ∧ (∀ b, lo ≤ b → b < W.heap.size → b < w.heap.size + 1 + 1) ∧ (∀ b, lo ≤ b → b < W.heap.size → b < w.heap.size + 1 + 1 + 1) ∧ Known l w

theorem Known.later {w w' : World} (hb : Below w.heap.size w w') : ∀ {l : List (Nat × World)}, Known l w → Known l w'
  | [], _ => trivial
  | (lo, W) :: l, ⟨h1, h2, h3, _, _, _, _, _, h7⟩ =>
    have s : ∀ b, lo ≤ b → b < W.heap.size → b < w'.heap.size := fun b a c => Nat.lt_of_lt_of_le (h3 b a c) hb.size
    ⟨fun b o a c => (hb.cell (p := ⟨b, o, none⟩) (h3 b a c)).trans (h1 b o a c), fun b o a c => (hb.frozen (p := ⟨b, o, none⟩) (h3 b a c)).trans (h2 b o a c), s,
      fun b a c => Nat.le_of_lt (s b a c), fun b _ a c => Nat.le_trans (Nat.le_of_lt (s b a c)) (Nat.le_add_right _ _), fun b a c => by have := s b a c; omega, fun b a c => by have := s b a c; omega, fun b a c => by have := s b a c; omega, later hb h7⟩

theorem Known.step {l : List (Nat × World)} {w W w' : World} (h : Known l w) (hW : Below w.heap.size w W) (hb : Below W.heap.size W w') : Known ((w.heap.size, W) :: l) w' :=
  have s : ∀ b, w.heap.size ≤ b → b < W.heap.size → b < w'.heap.size := fun _ _ c => Nat.lt_of_lt_of_le c hb.size
  ⟨fun b o _ c => hb.cell (p := ⟨b, o, none⟩) c, fun b o _ c => hb.frozen (p := ⟨b, o, none⟩) c, s, fun b a c => Nat.le_of_lt (s b a c), fun b _ a c => Nat.le_trans (Nat.le_of_lt (s b a c)) (Nat.le_add_right _ _),
    fun b a c => by have := s b a c; omega, fun b a c => by have := s b a c; omega, fun b a c => by have := s b a c; omega, (h.later hW).later hb⟩
/-- the newest row alone: every block from lo on is as it was when the call began (an older row would be wrong of a block that was written since) -/
theorem Known.only {W w' : World} (lo : Nat) (hb : Below W.heap.size W w') : Known [(lo, W)] w' :=
  have s : ∀ b, lo ≤ b → b < W.heap.size → b < w'.heap.size := fun _ _ c => Nat.lt_of_lt_of_le c hb.size
  ⟨fun b o _ c => hb.cell (p := ⟨b, o, none⟩) c, fun b o _ c => hb.frozen (p := ⟨b, o, none⟩) c, s, fun b a c => Nat.le_of_lt (s b a c), fun b _ a c => Nat.le_trans (Nat.le_of_lt (s b a c)) (Nat.le_add_right _ _),
    fun b a c => by have := s b a c; omega, fun b a c => by have := s b a c; omega, fun b a c => by have := s b a c; omega, trivial⟩
theorem Known.nil (w : World) : Known [] w := trivial
/-- a call behind a new block keeps what lay ahead of that block -/
theorem below_alloc {w w' : World} {o : Obj} (h : Below (w.alloc o).heap.size (w.alloc o) w') : Below w.heap.size w w' :=
  ((Below.refl _ _).alloc (Nat.le_refl _) o).trans (h.mono (by simp))

theorem kept_of {B : Nat} {W w : World} {p : Prop} (h : Kept B W w ∧ p) : Below B W w := h.1.below

/-! a number of four parts, stored part by part -/
section
variable {w : World} {b : Nat} {v0 v1 v2 v3 u0 u1 u2 u3 : Value}
def World.set4 (w : World) (b : Nat) (v0 v1 v2 v3 : Value) : World := (((w.setCell ⟨b, 0, none⟩ v0).setCell ⟨b, 1, none⟩ v1).setCell ⟨b, 2, none⟩ v2).setCell ⟨b, 3, none⟩ v3
theorem off_ne {b b' : Nat} {i j : Nat} (h : i ≠ j) : (⟨b, i, none⟩ : Addr) ≠ ⟨b', j, none⟩ := fun e => h (by injection e)
theorem blk_ne {b b' : Nat} {i j : Nat} (h : b ≠ b') : (⟨b, i, none⟩ : Addr) ≠ ⟨b', j, none⟩ := fun e => h (by injection e)
theorem set4_cells (c0 : w.cell? ⟨b, 0, none⟩ = some u0) (c1 : w.cell? ⟨b, 1, none⟩ = some u1) (c2 : w.cell? ⟨b, 2, none⟩ = some u2) (c3 : w.cell? ⟨b, 3, none⟩ = some u3) :
    (World.set4 w b v0 v1 v2 v3).cell? ⟨b, 0, none⟩ = some v0 ∧ (World.set4 w b v0 v1 v2 v3).cell? ⟨b, 1, none⟩ = some v1 ∧ (World.set4 w b v0 v1 v2 v3).cell? ⟨b, 2, none⟩ = some v2 ∧ (World.set4 w b v0 v1 v2 v3).cell? ⟨b, 3, none⟩ = some v3 := by
  unfold World.set4
  refine ⟨?_, ?_, ?_, ?_⟩
  · rw [World.cell?_setCell_other _ _ _ _ (off_ne (by decide)), World.cell?_setCell_other _ _ _ _ (off_ne (by decide)), World.cell?_setCell_other _ _ _ _ (off_ne (by decide)), World.cell?_setCell_same _ _ _ c0]
  · rw [World.cell?_setCell_other _ _ _ _ (off_ne (by decide)), World.cell?_setCell_other _ _ _ _ (off_ne (by decide)), World.cell?_setCell_same _ _ _ (u := u1)]
    rw [World.cell?_setCell_other _ _ _ _ (off_ne (by decide)), c1]
  · rw [World.cell?_setCell_other _ _ _ _ (off_ne (by decide)), World.cell?_setCell_same _ _ _ (u := u2)]
    rw [World.cell?_setCell_other _ _ _ _ (off_ne (by decide)), World.cell?_setCell_other _ _ _ _ (off_ne (by decide)), c2]
  · rw [World.cell?_setCell_same _ _ _ (u := u3)]
    rw [World.cell?_setCell_other _ _ _ _ (off_ne (by decide)), World.cell?_setCell_other _ _ _ _ (off_ne (by decide)), World.cell?_setCell_other _ _ _ _ (off_ne (by decide)), c3]
theorem set4_other {b' o : Nat} (h : b ≠ b') : (World.set4 w b v0 v1 v2 v3).cell? ⟨b', o, none⟩ = w.cell? ⟨b', o, none⟩ := by
  unfold World.set4
  rw [World.cell?_setCell_other _ _ _ _ (blk_ne h), World.cell?_setCell_other _ _ _ _ (blk_ne h), World.cell?_setCell_other _ _ _ _ (blk_ne h), World.cell?_setCell_other _ _ _ _ (blk_ne h)]
theorem set4_frozen (a : Addr) : (World.set4 w b v0 v1 v2 v3).frozen? a = w.frozen? a := by
  unfold World.set4; simp only [World.frozen?_setCell]
theorem set4_size : (World.set4 w b v0 v1 v2 v3).heap.size = w.heap.size := by
  unfold World.set4; simp only [World.size_setCell]
theorem set4_kept {B : Nat} {W : World} (h : Kept B W w) (hb : B ≤ b) : Kept B W (World.set4 w b v0 v1 v2 v3) := by
  unfold World.set4
  exact (((h.setCell hb _).setCell hb _).setCell hb _).setCell hb _
end

/-- block b holds these cells, and none of them is frozen -/
structure Box (w : World) (b : Nat) (vs : Array Value) : Prop where
  lt : b < w.heap.size
  cell : ∀ i v, vs[i]? = some v → w.cell? ⟨b, i, none⟩ = some v
  free : ∀ o, w.frozen? ⟨b, o, none⟩ = false
section
variable {w w' W : World} {b : Nat} {vs : Array Value}
theorem Box.newAt {c : Array Value} {t : TypeId} (h : b = w.heap.size) : Box (w.alloc (.cells c t)) b c := by
  subst h
  exact ⟨by simp, fun i v h => by simp [h], fun i => by simp⟩
theorem Box.alloc (h : Box w b vs) (o : Obj) : Box (w.alloc o) b vs :=
  ⟨by have := h.lt; simp only [World.size_alloc]; omega, fun i v hi => (World.cell?_alloc_lt w o ⟨b, i, none⟩ h.lt).trans (h.cell i v hi), fun i => (World.frozen?_alloc_old w o ⟨b, i, none⟩ (show b ≠ _ by have := h.lt; omega)).trans (h.free i)⟩
theorem Box.drew (h : Box w b vs) : Box w.drew b vs := ⟨h.lt, h.cell, h.free⟩
theorem Box.call (hb : Below W.heap.size W w') (h : Box W b vs) : Box w' b vs :=
  ⟨Nat.lt_of_lt_of_le h.lt hb.size, fun i v hi => (hb.cell (p := ⟨b, i, none⟩) h.lt).trans (h.cell i v hi), fun i => (hb.frozen (p := ⟨b, i, none⟩) h.lt).trans (h.free i)⟩
theorem Box.other {b' j : Nat} {v' : Value} (h : Box w b vs) (hne : b' ≠ b) : Box (w.setCell ⟨b', j, none⟩ v') b vs :=
  ⟨by rw [World.size_setCell]; exact h.lt, fun i v hi => by rw [World.cell?_setCell_other _ _ _ _ (blk_ne hne)]; exact h.cell i v hi, fun i => by rw [World.frozen?_setCell]; exact h.free i⟩
theorem Box.set {j : Nat} {v' : Value} (h : Box w b vs) : Box (w.setCell ⟨b, j, none⟩ v') b (vs.setIfInBounds j v') :=
  ⟨by rw [World.size_setCell]; exact h.lt, fun i v hi => by
    by_cases e : j = i
    · subst e
      rcases Nat.lt_or_ge j vs.size with hj | hj
      · have e2 : v = v' := by rw [Array.getElem?_setIfInBounds_self_of_lt hj] at hi; exact (Option.some.inj hi).symm
        subst e2
        exact World.cell?_setCell_same _ _ _ (h.cell j vs[j] (Array.getElem?_eq_getElem hj))
      · rw [Array.getElem?_eq_none (by simpa using hj)] at hi; cases hi
    · rw [World.cell?_setCell_other _ _ _ _ (off_ne e)]
      exact h.cell i v (by rw [Array.getElem?_setIfInBounds_ne e] at hi; exact hi), fun i => by rw [World.frozen?_setCell]; exact h.free i⟩
theorem Box.set10 {u0 v : Value} (h : Box w b #[u0]) : Box (w.setCell ⟨b, 0, none⟩ v) b #[v] := h.set
theorem Box.set20 {u0 u1 v : Value} (h : Box w b #[u0, u1]) : Box (w.setCell ⟨b, 0, none⟩ v) b #[v, u1] := h.set
theorem Box.set21 {u0 u1 v : Value} (h : Box w b #[u0, u1]) : Box (w.setCell ⟨b, 1, none⟩ v) b #[u0, v] := h.set
theorem Box.set40 {u0 u1 u2 u3 v : Value} (h : Box w b #[u0, u1, u2, u3]) : Box (w.setCell ⟨b, 0, none⟩ v) b #[v, u1, u2, u3] := h.set
theorem Box.set41 {u0 u1 u2 u3 v : Value} (h : Box w b #[u0, u1, u2, u3]) : Box (w.setCell ⟨b, 1, none⟩ v) b #[u0, v, u2, u3] := h.set
theorem Box.set42 {u0 u1 u2 u3 v : Value} (h : Box w b #[u0, u1, u2, u3]) : Box (w.setCell ⟨b, 2, none⟩ v) b #[u0, u1, v, u3] := h.set
theorem Box.set43 {u0 u1 u2 u3 v : Value} (h : Box w b #[u0, u1, u2, u3]) : Box (w.setCell ⟨b, 3, none⟩ v) b #[u0, u1, u2, v] := h.set
theorem Box.set50 {u0 u1 u2 u3 u4 v : Value} (h : Box w b #[u0, u1, u2, u3, u4]) : Box (w.setCell ⟨b, 0, none⟩ v) b #[v, u1, u2, u3, u4] := h.set
theorem Box.set51 {u0 u1 u2 u3 u4 v : Value} (h : Box w b #[u0, u1, u2, u3, u4]) : Box (w.setCell ⟨b, 1, none⟩ v) b #[u0, v, u2, u3, u4] := h.set
theorem Box.set52 {u0 u1 u2 u3 u4 v : Value} (h : Box w b #[u0, u1, u2, u3, u4]) : Box (w.setCell ⟨b, 2, none⟩ v) b #[u0, u1, v, u3, u4] := h.set
theorem Box.set53 {u0 u1 u2 u3 u4 v : Value} (h : Box w b #[u0, u1, u2, u3, u4]) : Box (w.setCell ⟨b, 3, none⟩ v) b #[u0, u1, u2, v, u4] := h.set
theorem Box.set54 {u0 u1 u2 u3 u4 v : Value} (h : Box w b #[u0, u1, u2, u3, u4]) : Box (w.setCell ⟨b, 4, none⟩ v) b #[u0, u1, u2, u3, v] := h.set
theorem box_mk1 {v0 : Value} (l : b < w.heap.size) (c0 : w.cell? ⟨b, 0, none⟩ = some v0) (f : ∀ o, w.frozen? ⟨b, o, none⟩ = false) : Box w b #[v0] := ⟨l, (fun i v h => by
    match i, h with
    | 0, h => exact (Option.some.inj h) ▸ c0
    | i + 1, h => cases h), f⟩
theorem box_mk2 {v0 v1 : Value} (l : b < w.heap.size) (c0 : w.cell? ⟨b, 0, none⟩ = some v0) (c1 : w.cell? ⟨b, 1, none⟩ = some v1) (f : ∀ o, w.frozen? ⟨b, o, none⟩ = false) : Box w b #[v0, v1] := ⟨l, (fun i v h => by
    match i, h with
    | 0, h => exact (Option.some.inj h) ▸ c0
    | 1, h => exact (Option.some.inj h) ▸ c1
    | i + 2, h => cases h), f⟩
theorem box_mk4 {v0 v1 v2 v3 : Value} (l : b < w.heap.size) (c0 : w.cell? ⟨b, 0, none⟩ = some v0) (c1 : w.cell? ⟨b, 1, none⟩ = some v1) (c2 : w.cell? ⟨b, 2, none⟩ = some v2) (c3 : w.cell? ⟨b, 3, none⟩ = some v3) (f : ∀ o, w.frozen? ⟨b, o, none⟩ = false) : Box w b #[v0, v1, v2, v3] := ⟨l, (fun i v h => by
    match i, h with
    | 0, h => exact (Option.some.inj h) ▸ c0
    | 1, h => exact (Option.some.inj h) ▸ c1
    | 2, h => exact (Option.some.inj h) ▸ c2
    | 3, h => exact (Option.some.inj h) ▸ c3
    | i + 4, h => cases h), f⟩
theorem box_mk5 {v0 v1 v2 v3 v4 : Value} (l : b < w.heap.size) (c0 : w.cell? ⟨b, 0, none⟩ = some v0) (c1 : w.cell? ⟨b, 1, none⟩ = some v1) (c2 : w.cell? ⟨b, 2, none⟩ = some v2) (c3 : w.cell? ⟨b, 3, none⟩ = some v3) (c4 : w.cell? ⟨b, 4, none⟩ = some v4) (f : ∀ o, w.frozen? ⟨b, o, none⟩ = false) : Box w b #[v0, v1, v2, v3, v4] := ⟨l, (fun i v h => by
    match i, h with
    | 0, h => exact (Option.some.inj h) ▸ c0
    | 1, h => exact (Option.some.inj h) ▸ c1
    | 2, h => exact (Option.some.inj h) ▸ c2
    | 3, h => exact (Option.some.inj h) ▸ c3
    | 4, h => exact (Option.some.inj h) ▸ c4
    | i + 5, h => cases h), f⟩
end

/-! small orders that the walk meets -/
theorem nlt2 (n : Nat) : (n < n + 1 + 1) = True := by simp only [eq_iff_iff, iff_true]; omega
theorem nle2 (n : Nat) : (n ≤ n + 1 + 1) = True := by simp only [eq_iff_iff, iff_true]; omega
theorem nlt3 (n : Nat) : (n < n + 1 + 1 + 1) = True := by simp only [eq_iff_iff, iff_true]; omega
theorem nle3 (n : Nat) : (n ≤ n + 1 + 1 + 1) = True := by simp only [eq_iff_iff, iff_true]; omega
theorem nlt4 (n : Nat) : (n < n + 1 + 1 + 1 + 1) = True := by simp only [eq_iff_iff, iff_true]; omega
theorem nle4 (n : Nat) : (n ≤ n + 1 + 1 + 1 + 1) = True := by simp only [eq_iff_iff, iff_true]; omega
theorem nlt5 (n : Nat) : (n < n + 1 + 1 + 1 + 1 + 1) = True := by simp only [eq_iff_iff, iff_true]; omega
theorem nle5 (n : Nat) : (n ≤ n + 1 + 1 + 1 + 1 + 1) = True := by simp only [eq_iff_iff, iff_true]; omega
theorem nlt6 (n : Nat) : (n < n + 1 + 1 + 1 + 1 + 1 + 1) = True := by simp only [eq_iff_iff, iff_true]; omega
theorem nle6 (n : Nat) : (n ≤ n + 1 + 1 + 1 + 1 + 1 + 1) = True := by simp only [eq_iff_iff, iff_true]; omega
theorem nlt7 (n : Nat) : (n < n + 1 + 1 + 1 + 1 + 1 + 1 + 1) = True := by simp only [eq_iff_iff, iff_true]; omega
theorem nle7 (n : Nat) : (n ≤ n + 1 + 1 + 1 + 1 + 1 + 1 + 1) = True := by simp only [eq_iff_iff, iff_true]; omega
theorem nlt8 (n : Nat) : (n < n + 1 + 1 + 1 + 1 + 1 + 1 + 1 + 1) = True := by simp only [eq_iff_iff, iff_true]; omega
theorem nle8 (n : Nat) : (n ≤ n + 1 + 1 + 1 + 1 + 1 + 1 + 1 + 1) = True := by simp only [eq_iff_iff, iff_true]; omega
attribute [go_sem] nlt2 nle2 nlt3 nle3 nlt4 nle4 nlt5 nle5 nlt6 nle6 nlt7 nle7 nlt8 nle8
end Go.Proofs.Ythpmbfdbknikcaa
