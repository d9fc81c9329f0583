/- Boxes and old memory where a world has grown. -/
import Derived.Test.YtglagdmfplgfaaaKept
import Derived.Test.YtglagdmfplgfaaaChain
set_option linter.unusedVariables false
set_option linter.unusedSimpArgs false
namespace Go.Proofs.Ytglagdmfplgfaaa
open Go.RowKit Go.Shelf

theorem Box.grown {A B : World} {row : Option Nat} {b : Nat} {vs : Array Value} (h : Box A b vs) (hg : A.grownBy B row) (hr : ∀ r, row = some r → ∃ o : Obj, A.heap[r]? = some o ∧ o.isCells = false) (hc : ∃ v, vs[0]? = some v) : Box B b vs :=
  ⟨Nat.lt_of_lt_of_le h.lt hg.size, fun i v hi => cell_kept (h.cell i v hi) hg hr, fun o => by
    have hb : B.heap[b]? = A.heap[b]? := hg.block b h.lt (by
      intro e
      obtain ⟨v, hv⟩ := hc
      obtain ⟨o, ho, hn⟩ := hr b e.symm
      have := h.cell 0 v hv
      unfold World.cell? at this
      simp only [ho] at this
      cases o <;> simp_all [Obj.isCells])
    exact (World.frozen?_of_block (a := ⟨b, o, none⟩) hb).trans (h.free o)⟩
theorem below_others {A B : World} (h : Below A.heap.size A B) : KeepsOthers A B := ⟨h.size, fun k o hk _ => (h.block k (Array.getElem?_eq_some_iff.1 hk).1).trans hk⟩
/-! an object that is no cells stays -/
theorem def_call {W W' : World} {D : Nat} {o : Obj} (hb : Below W.heap.size W W') (h : W.heap[D]? = some o) : W'.heap[D]? = some o := (hb.block D (Array.getElem?_eq_some_iff.1 h).1).trans h
theorem def_set {W : World} {D : Nat} {o : Obj} {p : Addr} {v : Value} (h : W.heap[D]? = some o) (ho : o.isCells = false := by rfl) : (W.setCell p v).heap[D]? = some o := (KeepsOthers.setCell W p v).same D _ h ho
theorem def_drew {W : World} {D : Nat} {o : Obj} (h : W.heap[D]? = some o) : W.drew.heap[D]? = some o := h
end Go.Proofs.Ytglagdmfplgfaaa
