/- A map of integer keys that a call makes as a literal: what its store and its look-up run to. Conditions: the key's type is an integer kind. -/
import Derived.Maps.Own
import Derived.WalkKit
set_option linter.unusedVariables false
set_option linter.unusedSimpArgs false
namespace Go.Proofs.Ytglagdmfplgfaaa
open Go.RowKit Go.Maps

theorem setObj_last {P : Program} (w : World) (es : Array MapEntry) (c : Nat) (o' : Obj) : (setObj w.heap.size o').run P (w.alloc (.map es c)) = .ok () (w.alloc o') := by
  have h1 : w.heap.size < (w.heap.push (Obj.map es c)).size := by simp
  have h2 : (w.heap.push (Obj.map es c)).setIfInBounds w.heap.size o' = w.heap.push o' := by
    apply Array.ext
    · simp
    · intro i h3 h4
      simp at h4
      rw [Array.getElem_setIfInBounds (by simpa using h3)]
      by_cases e : w.heap.size = i
      · subst e; simp
      · rw [if_neg e, Array.getElem_push, Array.getElem_push, dif_pos (by omega), dif_pos (by omega)]
  simp [setObj, Sem.run, World.alloc, h1, h2, -World.alloc_eq]

theorem run_checkKey_int {P : Program} {k : TypeId} {q : IntKind} (hk : P.underlying k = some (.int q)) (w : World) (em : Bool) (x : Int) :
    (Instr.checkKey em 10000 k (.int q x)).run P w = .ok () w := by
  show (Instr.checkKey em (9999 + 1) k (.int q x)).run P w = .ok () w
  rw [Instr.checkKey]
  simp [run_underlying hk, Result.andThen]

theorem run_insert_last {P : Program} {t k e : TypeId} {q : IntKind} (ht : P.underlying t = some (.map k e)) (hk : P.underlying k = some (.int q))
    (w : World) (es : Array MapEntry) (clock : Nat) (x : Int) (v : Value) (hf : Instr.findNow (.int q) (.int q x) es.toList 0 = some none) :
    (Instr.mapUpdate t (.map (some w.heap.size)) (.int q x) v).run P (w.alloc (.map es clock)) = .ok () (w.alloc (.map (es.push ⟨.int q x, v, clock⟩) (clock + 1))) := by
  have hb : (w.alloc (.map es clock)).heap[w.heap.size]? = some (.map es clock) := (MapKept.heap_alloc w _).1
  simp [Instr.mapUpdate, run_underlying ht, MapKept.run_getObj_map hb, run_checkKey_int hk, run_underlying hk, Instr.findKey, hf, setObj_last, Result.andThen]

theorem run_lookup_none {P : Program} {t k e : TypeId} {q : IntKind} (ht : P.underlying t = some (.map k e)) (hk : P.underlying k = some (.int q)) {z : Value}
    (hz : ∀ w : World, (zeroValue e).run P w = .ok z w) (w : World) (b : Nat) (es : Array MapEntry) (clock : Nat) (hb : w.heap[b]? = some (.map es clock)) (x : Int) (hf : Instr.findNow (.int q) (.int q x) es.toList 0 = some none) :
    (Instr.lookup t (.map (some b)) (.int q x) true).run P w = .ok (.tuple #[z, .bool false]) w := by
  simp [Instr.lookup, run_underlying ht, MapKept.run_getObj_map hb, run_checkKey_int hk, run_underlying hk, Instr.findKey, hf, hz, Result.andThen]

theorem run_lookup_some {P : Program} {t k e : TypeId} {q : IntKind} (ht : P.underlying t = some (.map k e)) (hk : P.underlying k = some (.int q))
    (w : World) (b : Nat) (es : Array MapEntry) (clock : Nat) (hb : w.heap[b]? = some (.map es clock)) (x : Int) (i : Nat) (v : Value) (hf : Instr.findNow (.int q) (.int q x) es.toList 0 = some (some (i, v))) :
    (Instr.lookup t (.map (some b)) (.int q x) true).run P w = .ok (.tuple #[v, .bool true]) w := by
  simp [Instr.lookup, run_underlying ht, MapKept.run_getObj_map hb, run_checkKey_int hk, run_underlying hk, Instr.findKey, hf, Result.andThen]
end Go.Proofs.Ytglagdmfplgfaaa
