/- How old memory is carried through a walk: 'Kept B W w': below block B the world w is as W was, and w has at least B blocks. -/
import Derived.WalkKit
import Derived.Lib.Hide
namespace Go.Proofs.Ytbifpmpnfcfkkaa
open Go.RowKit

structure Kept (B : Nat) (W w : World) : Prop where
  below : Below B W w
  size : B ≤ w.heap.size

theorem Kept.refl (w : World) : Kept w.heap.size w w := ⟨Below.refl _ _, Nat.le_refl _⟩
theorem Kept.alloc {B : Nat} {W w : World} (h : Kept B W w) (o : Obj) : Kept B W (w.alloc o) := ⟨h.below.alloc h.size o, by simp; exact Nat.le_succ_of_le h.size⟩
theorem Kept.step {B : Nat} {W w w' : World} (h : Kept B W w) (k : Below w.heap.size w w') : Kept B W w' := ⟨h.below.trans (k.mono h.size), Nat.le_trans h.size k.size⟩
theorem Kept.drew {B : Nat} {W w : World} (h : Kept B W w) : Kept B W w.drew := ⟨h.below.drew, h.size⟩
theorem Kept.setCell {B : Nat} {W w : World} (h : Kept B W w) {p : Addr} (hp : B ≤ p.block) (v : Value) : Kept B W (w.setCell p v) := ⟨h.below.setCell hp v, by have := h.size; simpa [World.setCell] using this⟩

theorem ret_bool {a b : Bool} (h : a = b) : Ending.returned (.bool a) = .returned (.bool b) := by rw [h]
theorem ret_int {k : IntKind} {a b : Int} (h : a = b) : Ending.returned (.int k a) = .returned (.int k b) := by rw [h]
/-- a contract whose answer is known to be b -/
theorem Calls.known {P : Program} {f : FuncId} {args : Array Value} {w : World} {a : Bool} {R : World → Prop} (b : Bool) (h : a = b)
    (c : Calls P f args w fun e w' => e = .returned (.bool a) ∧ R w') : Calls P f args w fun e w' => e = .returned (.bool b) ∧ R w' := by
  subst h; exact c
end Go.Proofs.Ytbifpmpnfcfkkaa
