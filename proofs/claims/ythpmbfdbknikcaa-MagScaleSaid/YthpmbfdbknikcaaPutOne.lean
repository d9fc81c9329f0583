/- a store of what stands there -/
import Derived.Test.YthpmbfdbknikcaaRegionG
set_option linter.unusedVariables false
set_option linter.unusedSimpArgs false
namespace Go.Proofs.Ythpmbfdbknikcaa
open Go Go.RowKit
theorem setCell_id {w : World} {b o : Nat} {v : Value} (h : w.cell? ⟨b, o, none⟩ = some v) : w.setCell ⟨b, o, none⟩ v = w := by
  unfold World.cell? at h
  unfold World.setCell
  have e : (w.heap.modify b fun
      | .cells c elem frozen => .cells (c.setIfInBounds o v) elem frozen
      | o => o) = w.heap := by
    apply Array.ext
    · simp
    · intro i h1 h2
      rw [Array.getElem_modify]
      split
      · rename_i hb
        subst hb
        rw [Array.getElem?_eq_getElem h2] at h
        cases hc : w.heap[b] with
        | cells c t f =>
          rw [hc] at h
          simp only [Option.isSome_none, Bool.false_eq_true, if_false] at h
          have ho := (Array.getElem?_eq_some_iff.1 h)
          obtain ⟨ho1, ho2⟩ := ho
          show Obj.cells _ t f = _
          congr 1
          apply Array.ext
          · simp
          · intro j k1 k2
            rw [Array.getElem_setIfInBounds]
            split
            · rename_i e; subst e; exact ho2.symm
            · rfl
        | _ => rfl
      · rfl
  exact congrArg (fun h => ({ w with heap := h } : World)) e
theorem putCells_skip (b : Nat) : ∀ (l : List Value) (i : Nat) (w : World), (∀ k v, l[k]? = some v → w.cell? ⟨b, i + k, none⟩ = some v) → putCells b i l w = w
  | [], _, _, _ => rfl
  | v :: l, i, w, h => by
    unfold putCells
    have h0 := h 0 v rfl
    rw [Nat.add_zero] at h0
    rw [setCell_id h0]
    exact putCells_skip b l (i + 1) w fun k u hu => by
      have := h (k + 1) u (by simpa using hu)
      rwa [show i + (k + 1) = i + 1 + k by omega] at this
theorem Box.put_head {y : World} {b : Nat} {c0 v : Value} {l : List Value} (h : Box y b (c0 :: l).toArray) : putCells b 0 (v :: l) y = y.setCell ⟨b, 0, none⟩ v := by
  unfold putCells
  refine putCells_skip b l 1 _ fun k u hu => ?_
  rw [World.cell?_setCell_other _ _ _ _ (off_ne (by omega))]
  exact h.cell (1 + k) u (by rw [Nat.add_comm]; simpa using hu)
end Go.Proofs.Ythpmbfdbknikcaa
