/- The references' numbers: what a slice that the call itself made, and appends to, reads as. -/
import Derived.Test.YthpmbfdbknikcaaRef
import Derived.Test.YthpmbfdbknikcaaDig2
import Derived.Laws.OwnMore
set_option linter.unusedVariables false
set_option linter.unusedSimpArgs false
namespace Go.Proofs.Ythpmbfdbknikcaa
open Go.RowKit

theorem infoU32 : (Try.prog.info? 81).map (fun i => (i.zero, i.size, i.bytes)) = some (some (.int .u32 0), 1, 4) := by kernel_rfl
theorem add_off (g j : Nat) : (⟨g, 0, none⟩ : Addr).add j = ⟨g, j, none⟩ := by
  unfold Addr.add
  by_cases h : j = 0
  · subst h; simp
  · simp [h]
/-- a slice of the call's own (its block is B or beyond) that reads as these digits -/
def OwnN (B : Nat) (w : World) (v : Value) (l : List Nat) : Prop := DigL l ∧ w.ownsRow B 81 1 v l.length (l.map dv)
theorem OwnN.nil (B : Nat) (w : World) : OwnN B w (.slice none 0 0) [] := ⟨DigL.nil, World.ownsRow_nil _ _ _ _⟩
theorem OwnN.alloc {B : Nat} {w : World} {v : Value} {l : List Nat} (h : OwnN B w v l) (o : Obj) : OwnN B (w.alloc o) v l := ⟨h.1, h.2.alloc o⟩
theorem OwnN.call {B : Nat} {w w' : World} {v : Value} {l : List Nat} (h : OwnN B w v l) (hb : Below w.heap.size w w') : OwnN B w' v l :=
  ⟨h.1, h.2.kept (row := none) ⟨hb.os, hb.tape, hb.output, hb.size, fun k hk _ => hb.block k hk⟩ (by cases h' : v.ownBlock <;> simp)⟩
theorem OwnN.drew {B : Nat} {w : World} {v : Value} {l : List Nat} (h : OwnN B w v l) : OwnN B w.drew v l := h.call ((Below.refl _ _).drew)
theorem OwnN.reads {B : Nat} {w : World} {v : Value} {l : List Nat} (h : OwnN B w v l) : IsL w v l := by
  obtain ⟨hd, hown⟩ := h
  obtain ⟨hlen, h1⟩ := hown
  have hown' : w.ownsRow B 81 1 v l.length (l.map dv) := ⟨hlen, h1⟩
  rcases h1 with ⟨rfl, h0⟩ | ⟨g, cap, cur, rfl, hB, hg, hcap, hm, hsz, htake⟩
  · exact ⟨hd, none, 0, by rw [h0], by omega, fun h => absurd h (by omega)⟩
  · refine ⟨hd, _, cap, rfl, hcap, fun _ => ⟨g, 0, rfl, (Array.getElem?_eq_some_iff.1 hg).1, fun j d hj => ?_⟩⟩
    have := hown'.cells (g := g) rfl j (dv d) (by rw [List.getElem?_map, hj]; rfl)
    rw [add_off] at this
    rw [Nat.zero_add]
    exact this
theorem below_grown {B : Nat} {w w' : World} {row : Option Nat} (hg : w.grownBy w' row) (hB : B ≤ w.heap.size) (hr : ∀ k, row = some k → B ≤ k) : Below B w w' :=
  ⟨hg.os, hg.tape, hg.output, hg.size, fun k hk => hg.block k (by omega) (fun e => by have := hr k e.symm; omega)⟩
theorem OwnN.old {B : Nat} {w : World} {v : Value} {l : List Nat} (h : OwnN B w v l) : ∀ k, v.ownBlock = some k → B ≤ k := fun k hk => (h.2.lt k hk).1

section
variable {ops : Array Oper} {rest : List Oper} {o : Oper} {a : Act} {Q : Exit → Act → World → Prop} {w : World}
/-- append, of digits that lie in a block of their own -/
theorem app_any (hgd : o.guard = none) (s x : Operand) (ho : o.op = .call { callee := .builtin .append, args := #[s, x], argTypes := #[28, 28] })
    (B : Nat) {v : Value} {l : List Nat} (hs : a.eval s = v) (hown : OwnN B w v l) (b : Nat) (m : List Nat) (n : Nat) (hn : n = m.length) (hx : a.eval x = .slice (some ⟨b, 0, none⟩) n n) (hm : DigL m)
    (hcell : ∀ j d, m[j]? = some d → w.cell? ⟨b, j, none⟩ = some (dv d)) (hlen : l.length + m.length ≤ 1000000) (hB : B ≤ w.heap.size)
    (h : ∀ v' w', OwnN B w' v' (l ++ m) → Below B w w' → wpList Try.prog ops Q rest (a.put o.dst v') w') : wpList Try.prog ops Q (o :: rest) a w := by
  obtain ⟨i0, hi, hz0, hz1, hz2⟩ := info_parts infoU32
  subst hn
  refine wpList_append_own w hgd s x 28 ho B 81 i0 (.int .u32 0) 1 4 Try.underlying28 hi hz0 hz1 hz2 rfl (by decide) v l.length (l.map dv) hs hown.2 ⟨b, 0, none⟩ m.length m.length (m.map dv) hx (by simp) ?_ ?_ ?_ ?_ hB ?_
  · intro j u hj
    rw [List.getElem?_map] at hj
    cases hm2 : m[j]? with
    | none => rw [hm2] at hj; cases hj
    | some d => rw [hm2] at hj; cases hj; rw [add_off]; exact hcell j d hm2
  · intro u hu
    obtain ⟨d, _, rfl⟩ := List.mem_map.1 hu
    rfl
  · unfold maxLen; omega
  · omega
  · intro v' w' h1 h2 _
    refine h v' w' ⟨fun d hd => ?_, ?_⟩ (below_grown h2 hB hown.old)
    · rcases List.mem_append.1 hd with k | k
      · exact hown.1 d k
      · exact hm d k
    · rw [List.length_append, List.map_append]; exact h1
/-- the same, at a step of a region that draws -/
theorem step_app {K : Act → World → Prop} {E : Prop} (hgd : o.guard = none) (s x : Operand) (ho : o.op = .call { callee := .builtin .append, args := #[s, x], argTypes := #[28, 28] })
    (B : Nat) {v : Value} {l : List Nat} (hs : a.eval s = v) (hown : OwnN B w v l) (b : Nat) (m : List Nat) (n : Nat) (hn : n = m.length) (hx : a.eval x = .slice (some ⟨b, 0, none⟩) n n) (hm : DigL m)
    (hcell : ∀ j d, m[j]? = some d → w.cell? ⟨b, j, none⟩ = some (dv d)) (hlen : l.length + m.length ≤ 1000000) (hB : B ≤ w.heap.size)
    (h : ∀ v' w', OwnN B w' v' (l ++ m) → Below B w w' → K (a.put o.dst v') w') : if Region.wanted o (yielded ops a.tmps) = true then Oper.wp Try.prog o a w K Q else E := by
  have hw : Region.wanted o (yielded ops a.tmps) = true := by simp [Region.wanted, hgd]
  rw [if_pos hw]
  obtain ⟨i0, hi, hz0, hz1, hz2⟩ := info_parts infoU32
  subst hn
  refine wp_append_own w s x 28 ho B 81 i0 (.int .u32 0) 1 4 Try.underlying28 hi hz0 hz1 hz2 rfl (by decide) v l.length (l.map dv) hs hown.2 ⟨b, 0, none⟩ m.length m.length (m.map dv) hx (by simp) ?_ ?_ ?_ ?_ hB ?_
  · intro j u hj
    rw [List.getElem?_map] at hj
    cases hm2 : m[j]? with
    | none => rw [hm2] at hj; cases hj
    | some d => rw [hm2] at hj; cases hj; rw [add_off]; exact hcell j d hm2
  · intro u hu
    obtain ⟨d, _, rfl⟩ := List.mem_map.1 hu
    rfl
  · unfold maxLen; omega
  · omega
  · intro v' w' h1 h2 _
    refine h v' w' ⟨fun d hd => ?_, ?_⟩ (below_grown h2 hB hown.old)
    · rcases List.mem_append.1 hd with k | k
      · exact hown.1 d k
      · exact hm d k
    · rw [List.length_append, List.map_append]; exact h1
theorem app_one (hgd : o.guard = none) (s x : Operand) (ho : o.op = .call { callee := .builtin .append, args := #[s, x], argTypes := #[28, 28] })
    (B : Nat) {v : Value} {l : List Nat} (hs : a.eval s = v) (hown : OwnN B w v l) (b : Nat) (d : Nat) (hx : a.eval x = .slice (some ⟨b, 0, none⟩) 1 1) (hd : d < 2 ^ 32)
    (hcell : w.cell? ⟨b, 0, none⟩ = some (dv d)) (hlen : l.length ≤ 100000) (hB : B ≤ w.heap.size)
    (h : ∀ v' w', OwnN B w' v' (l ++ [d]) → Below B w w' → wpList Try.prog ops Q rest (a.put o.dst v') w') : wpList Try.prog ops Q (o :: rest) a w :=
  app_any hgd s x ho B hs hown b [d] 1 rfl hx (fun e he => by rw [List.mem_singleton.1 he]; exact hd)
    (fun j e hj => by
      match j, hj with
      | 0, hj => cases hj; exact hcell
      | j + 1, hj => cases hj) (by simp; omega) hB h
/-- make, of so many noughts -/
theorem make_any (hg : o.guard = none) (l c : Operand) (hop : o.op = Op.makeSlice 28 l c) (B n : Nat) {L : Int} (hL : L = n) (hl : a.eval l = .int .i64 L) (hc : a.eval c = .int .i64 L) (hn : n ≤ 1000000) (hB : B ≤ w.heap.size)
    (h : ∀ w', OwnN B w' (.slice (some ⟨w.heap.size, 0, none⟩) n n) (List.replicate n 0) → Below w.heap.size w w' → wpList Try.prog ops Q rest (a.put o.dst (.slice (some ⟨w.heap.size, 0, none⟩) n n)) w') : wpList Try.prog ops Q (o :: rest) a w := by
  obtain ⟨i0, hi, hz0, hz1, hz2⟩ := info_parts infoU32
  refine wpList_make_full w hg l c 28 hop B 81 i0 (.int .u32 0) 1 Try.underlying28 hi hz0 hz1 .i64 .i64 L L n hl hc hL hL (by rw [hz2]; omega) (by unfold maxLen; omega) hB ?_
  intro w' h1 h2
  refine h w' ⟨DigL.zeros n, ?_⟩ (below_grown h2 (Nat.le_refl _) (fun k hk => by cases hk))
  rw [Nat.mul_one, show (Value.int IntKind.u32 0).cells = #[.int .u32 0] from rfl, toList_madeCells_one] at h1
  rw [List.length_replicate, List.map_replicate]
  exact h1
theorem OwnN.cell {B g n c : Nat} {l : List Nat} (h : OwnN B w (.slice (some ⟨g, 0, none⟩) n c) l) {j d : Nat} (hj : l[j]? = some d) : w.cell? ⟨g, j, none⟩ = some (dv d) := by
  have := h.2.cells (g := g) rfl j (dv d) (by rw [List.getElem?_map, hj]; rfl)
  rw [add_off] at this; exact this
theorem OwnN.stored {B g c : Nat} {l : List Nat} (h : OwnN B w (.slice (some ⟨g, 0, none⟩) l.length c) l) (j : Nat) {d : Nat} (hd : d < 2 ^ 32) : OwnN B (w.setCell ⟨g, j, none⟩ (dv d)) (.slice (some ⟨g, 0, none⟩) l.length c) (l.set j d) :=
  ⟨h.1.set hd, by rw [List.length_set, List.map_set]; exact (h.2.stored j (dv d)).1⟩
theorem OwnN.free {B g c : Nat} {l : List Nat} (h : OwnN B w (.slice (some ⟨g, 0, none⟩) l.length c) l) (j : Nat) : w.frozen? ⟨g, j, none⟩ = false := h.2.frozenAt j
end
end Go.Proofs.Ythpmbfdbknikcaa
