/- A region that draws its order, whose operations answer the same in every world that has what they read: reads, what is pure, calls that keep old memory, new variables; in the order of the text; behind them stores, one by one. Anywhere, and in a round. -/
import Derived.Test.YthpmbfdbknikcaaRegion
import Derived.Below
import Derived.Laws.Alloc2
set_option linter.unusedVariables false
set_option linter.unusedSimpArgs false
namespace Go.Proofs.Ythpmbfdbknikcaa
open Go Go.RowKit

section
variable {P : Program} {ops : Array Oper} {Q : Exit → Act → World → Prop} {md : Region.Mode} {S : World → Prop} {t0 B : Nat} {Z : TypeId → Array Value}

def isAlloc (o : Oper) : Bool := match o.op with | .alloc _ => true | _ => false
def allocTy (o : Oper) : TypeId := match o.op with | .alloc t => t | _ => 0
/-- an operation's run: the value, the world as it was; or a call that answers the value and keeps old memory -/
def Gives (P : Program) (r : Result Next) (v : Value) (w : World) : Prop :=
  r = .ok (.value v) w ∨ ∃ f args, r = .ok (.enter f args) w ∧ Calls P f args w fun e w' => e = .returned v ∧ Below w.heap.size w w'
def YieldsU (P : Program) (ops : Array Oper) (S : World → Prop) (o : Oper) (v : Value) (a : Act) : Prop :=
  (Region.wanted o (yielded ops a.tmps) = true ∧ ∀ w, S w → Gives P ((execOp a.eval o).run P w) v w) ∨ (Region.wanted o (yielded ops a.tmps) = false ∧ v = undef)
def YieldsA (P : Program) (ops : Array Oper) (Z : TypeId → Array Value) (o : Oper) (a : Act) : Prop :=
  Region.wanted o (yielded ops a.tmps) = true ∧ ∀ w, (execOp a.eval o).run P w = .ok (.value (.pointer (some ⟨w.heap.size, 0, none⟩))) (w.alloc (.cells (Z (allocTy o)) (allocTy o)))
/-- block b is a new variable -/
structure Fresh (b : Nat) (zs : Array Value) (w : World) : Prop where
  lt : b < w.heap.size
  cell : ∀ i v, zs[i]? = some v → w.cell? ⟨b, i, none⟩ = some v
  free : ∀ i, w.frozen? ⟨b, i, none⟩ = false
def Stable (E : World → Prop) : Prop := ∀ w w', E w → Below w.heap.size w w' → E w'
theorem Fresh.stable (b : Nat) (zs : Array Value) : Stable (Fresh b zs) := fun _ _ h hb =>
  ⟨Nat.lt_of_lt_of_le h.lt hb.size, fun i v hv => (hb.cell (p := ⟨b, i, none⟩) h.lt).trans (h.cell i v hv), fun i => (hb.frozen (p := ⟨b, i, none⟩) h.lt).trans (h.free i)⟩
theorem Fresh.new (w : World) (zs : Array Value) (t : TypeId) : Fresh w.heap.size zs (w.alloc (.cells zs t)) :=
  ⟨by simp, fun i _ hv => by rw [World.cell?_alloc_new]; exact hv, fun i => World.frozen?_alloc_new w _ _ i⟩

theorem YieldsU.of_same {o : Oper} {v : Value} {a a' : Act} (hy : YieldsU P ops S o v a) (he : execOp a'.eval o = execOp a.eval o) (hw : Region.wanted o (yielded ops a'.tmps) = Region.wanted o (yielded ops a.tmps)) : YieldsU P ops S o v a' := by
  unfold YieldsU at *; rw [he, hw]; exact hy
theorem YieldsA.of_same {o : Oper} {a a' : Act} (hy : YieldsA P ops Z o a) (he : execOp a'.eval o = execOp a.eval o) (hw : Region.wanted o (yielded ops a'.tmps) = Region.wanted o (yielded ops a.tmps)) : YieldsA P ops Z o a' := by
  unfold YieldsA at *; rw [he, hw]; exact hy
theorem YieldsU.wpOp {i : Nat} {o : Oper} {v : Value} {a : Act} (hi : ops[i]? = some o) (hy : YieldsU P ops S o v a) {K : Act → World → Prop} {w : World} (hS : S w)
    (h : ∀ w', Below w.heap.size w w' → K (a.put o.dst v) w') : wpOp P ops Q i K a w := by
  unfold Go.wpOp
  simp only [hi]
  rcases hy with ⟨hw, hv⟩ | ⟨hw, rfl⟩
  · simp only [hw, if_true, Oper.wp]
    rcases hv w hS with e | ⟨f, args, e, hc⟩
    · rw [e]; exact .inl (h w (Below.refl _ _))
    · rw [e]; exact .inl (hc.mono fun e w' ⟨he, hb⟩ => by subst he; exact h w' hb)
  · simp only [hw, Bool.false_eq_true, if_false]; exact h w (Below.refl _ _)
theorem YieldsA.wpOp {i : Nat} {o : Oper} {a : Act} (hi : ops[i]? = some o) (hy : YieldsA P ops Z o a) {K : Act → World → Prop} {w : World}
    (h : K (a.put o.dst (.pointer (some ⟨w.heap.size, 0, none⟩))) (w.alloc (.cells (Z (allocTy o)) (allocTy o)))) : wpOp P ops Q i K a w := by
  unfold Go.wpOp
  simp only [hi, hy.1, if_true, Oper.wp, hy.2 w]
  exact .inl h

def stepU (P : Program) (ops : Array Oper) (S : World → Prop) (B : Nat) (Z : TypeId → Array Value) (i : Nat) (K : Act → (World → Prop) → Prop) (a : Act) (E : World → Prop) : Prop :=
  match ops[i]? with
  | none => False
  | some o => if isAlloc o = true then YieldsA P ops Z o a ∧ ∀ b, B ≤ b → K (a.put o.dst (.pointer (some ⟨b, 0, none⟩))) (fun w => E w ∧ Fresh b (Z (allocTy o)) w)
    else ∃ v, YieldsU P ops S o v a ∧ K (a.put o.dst v) E
def wpU (P : Program) (md : Region.Mode) (ops : Array Oper) (Q : Exit → Act → World → Prop) (S : World → Prop) (t0 B : Nat) (Z : TypeId → Array Value) : Nat → Array Bool → Act → (World → Prop) → Prop
  | 0, listed, a, E => Region.seqB md ops (ops.size - t0) t0 listed = true ∧ ∀ w, S w → E w → wpList P ops Q (ops.toList.drop t0) a w
  | f + 1, listed, a, E => Region.ready md ops listed ≠ [] ∧ ∀ i ∈ Region.ready md ops listed, i < t0 ∧ stepU P ops S B Z i (wpU P md ops Q S t0 B Z f (listed.setIfInBounds i true)) a E

theorem stepU_mono {i : Nat} {K K' : Act → (World → Prop) → Prop} {a : Act} {E : World → Prop} (h : ∀ a E, K a E → K' a E) (hs : stepU P ops S B Z i K a E) : stepU P ops S B Z i K' a E := by
  unfold stepU at *
  split at hs
  · exact hs
  · split at hs
    · rename_i h1; simp only [h1, if_true]; exact ⟨hs.1, fun b hb => h _ _ (hs.2 b hb)⟩
    · rename_i h1; simp only [h1]; obtain ⟨v, hy, hK⟩ := hs; exact ⟨v, hy, h _ _ hK⟩
theorem wpU_anti : ∀ (f : Nat) (listed : Array Bool) (a : Act) (E E' : World → Prop), (∀ w, E' w → E w) → wpU P md ops Q S t0 B Z f listed a E → wpU P md ops Q S t0 B Z f listed a E'
  | 0, _, _, _, _, hE, h => ⟨h.1, fun w hS h' => h.2 w hS (hE w h')⟩
  | f + 1, listed, a, E, E', hE, h => ⟨h.1, fun i hi => ⟨(h.2 i hi).1, by
    have hs := (h.2 i hi).2
    unfold stepU at *
    split at hs
    · exact hs
    · split at hs
      · rename_i h1; simp only [h1, if_true]; exact ⟨hs.1, fun b hb => wpU_anti f _ _ _ _ (fun w hw => ⟨hE w hw.1, hw.2⟩) (hs.2 b hb)⟩
      · rename_i h1; simp only [h1]; obtain ⟨v, hy, hK⟩ := hs; exact ⟨v, hy, wpU_anti f _ _ _ _ hE hK⟩⟩⟩

/-- it holds of the draw -/
theorem wpU_sound (HS : Stable S) (hSB : ∀ w, S w → B ≤ w.heap.size) : ∀ (f : Nat) (listed : Array Bool) (a : Act) (E : World → Prop) (w : World), Stable E → S w → E w →
    wpU P md ops Q S t0 B Z f listed a E → wpAny P md ops Q (f + (ops.size - t0)) listed a w
  | 0, listed, a, E, w, _, hS, hE, h => by
    have hd : (ops.toList.drop t0).length = ops.size - t0 := by simp
    have := wpAny_of_seq (md := md) (ops.toList.drop t0) t0 listed a w (fun j => by simp [List.getElem?_drop]) (by rw [hd]; exact h.1) (h.2 w hS hE)
    rw [hd] at this
    rw [Nat.zero_add]; exact this
  | f + 1, listed, a, E, w, HE, hS, hE, h => by
    rw [show f + 1 + (ops.size - t0) = (f + (ops.size - t0)) + 1 by omega]
    refine ⟨fun h0 => absurd h0 h.1, fun i hi => ?_⟩
    have hs := (h.2 i hi).2
    unfold stepU at hs
    split at hs
    · exact hs.elim
    · rename_i o ho
      split at hs
      · exact hs.1.wpOp ho (wpU_sound HS hSB f _ _ _ _ (fun u u' hu hb => ⟨HE u u' hu.1 hb, Fresh.stable _ _ u u' hu.2 hb⟩) (HS w _ hS ((Below.refl _ _).alloc (Nat.le_refl _) _)) ⟨HE w _ hE ((Below.refl _ _).alloc (Nat.le_refl _) _), Fresh.new w _ _⟩ (hs.2 w.heap.size (hSB w hS)))
      · obtain ⟨v, hy, hK⟩ := hs
        exact hy.wpOp ho hS fun w' hb => wpU_sound HS hSB f _ _ _ _ HE (HS w w' hS hb) (HE w w' hE hb) hK

/-- what is ready lies ahead of the stores, as long as something there is not done -/
def tailB (md : Region.Mode) (ops : Array Oper) (t0 : Nat) : Bool := (t0 == ops.size) || (decide (t0 < ops.size) && Region.sinkB md ops t0 && Region.chainB md ops t0)
theorem ready_lt {listed : Array Bool} (hT : tailB md ops t0 = true) (inv : HeadInv md ops t0 listed) {i : Nat} (hit : i < t0) (hun : listed.getD i true = false) {j : Nat} (hj : j ∈ Region.ready md ops listed) : j < t0 := by
  unfold tailB at hT
  simp only [Bool.or_eq_true, beq_iff_eq, Bool.and_eq_true, decide_eq_true_eq] at hT
  rcases hT with hT | ⟨⟨h1, h2⟩, h3⟩
  · obtain ⟨_, o, ho, _⟩ := mem_ready.1 hj
    rw [hT]; exact (Array.getElem?_eq_some_iff.1 ho).1
  · rcases Nat.lt_or_ge j t0 with h | h
    · exact h
    · exact absurd hj (tail_waits h2 h3 h1 inv _ i rfl hit hun j h)

theorem wpU_first {i : Nat} {oi : Oper} {v : Value} (hi : ops[i]? = some oi) (hsel : ∀ (j : Nat) (o : Oper) cs b, ops[j]? = some o → o.op ≠ .select cs b) (hT : tailB md ops t0 = true) (hit : i < t0) (hna : isAlloc oi = false) :
    ∀ (f : Nat) (listed : Array Bool) (a : Act) (E : World → Prop), HeadInv md ops t0 listed →
      (∀ j oj, ops[j]? = some oj → j ≠ i → listed.getD j true = false → (∀ e ∈ oj.after, Region.binds md e = true → e.on ≠ i) → oi.apart ops oj = true) →
      i ∈ Region.ready md ops listed → YieldsU P ops S oi v a →
      wpU P md ops Q S t0 B Z f (listed.setIfInBounds i true) (a.put oi.dst v) E → wpU P md ops Q S t0 B Z (f + 1) listed a E := by
  intro f
  induction f with
  | zero =>
    intro listed a E inv _ hr hy H
    refine ⟨fun h => (by rw [h] at hr; cases hr), fun j hj => ?_⟩
    have hjt := ready_lt hT inv hit (mem_ready.1 hr).1 hj
    refine ⟨hjt, ?_⟩
    by_cases hji : j = i
    · subst hji; unfold stepU; simp only [hi, hna]; exact ⟨v, hy, H⟩
    · have := seqB_ready H.1 j (ready_mono hj hji)
      omega
  | succ f ih =>
    intro listed a E inv hfree hr hy H
    refine ⟨fun h => (by rw [h] at hr; cases hr), fun j hj => ?_⟩
    have hjt := ready_lt hT inv hit (mem_ready.1 hr).1 hj
    refine ⟨hjt, ?_⟩
    by_cases hji : j = i
    · subst hji; unfold stepU; simp only [hi, hna]; exact ⟨v, hy, H⟩
    · have h1 := (H.2 j (ready_mono hj hji)).2
      obtain ⟨hjun, oj, hoj, hall⟩ := mem_ready.1 hj
      have hap := hfree j oj hoj hji hjun (not_waits (j := j) (mem_ready.1 hr).1 hall)
      obtain ⟨a1, a2, a3⟩ := Oper.apart_spec hap
      have hsi := fun cs b => hsel i oi cs b hi
      have hsj := fun cs b => hsel j oj cs b hoj
      have next : ∀ (u : Value) (E' : World → Prop), wpU P md ops Q S t0 B Z f ((listed.setIfInBounds i true).setIfInBounds j true) ((a.put oi.dst v).put oj.dst u) E' → wpU P md ops Q S t0 B Z (f + 1) (listed.setIfInBounds j true) (a.put oj.dst u) E' := fun u E' h2 => by
        refine ih (listed.setIfInBounds j true) (a.put oj.dst u) E' (inv.set hj hjt) (free_later hjun hfree) (ready_mono hr (Ne.symm hji)) (hy.of_same (execOp_put oi hsi a oj.dst u a3) (wanted_put oi a oj.dst u a3)) ?_
        rw [Array.setIfInBounds_comm _ _ hji, ← Act.put_comm a v u a2]
        exact h2
      unfold stepU at *
      simp only [hoj] at *
      split at h1
      · rename_i k; simp only [k, if_true]
        exact ⟨h1.1.of_same (execOp_put oj hsj a oi.dst v a1).symm (wanted_put oj a oi.dst v a1).symm, fun b hb => next _ _ (h1.2 b hb)⟩
      · rename_i k; simp only [k]
        obtain ⟨u, hyu, hK⟩ := h1
        exact ⟨u, hyu.of_same (execOp_put oj hsj a oi.dst v a1).symm (wanted_put oj a oi.dst v a1).symm, next _ _ hK⟩

/-- are only new variables ready? -/
def allocsB (md : Region.Mode) (ops : Array Oper) (listed : Array Bool) : Bool := (Region.ready md ops listed).all fun j => match ops[j]? with | some o => isAlloc o | none => false
theorem wpU_first_alloc {i : Nat} {oi : Oper} (hi : ops[i]? = some oi) (hsel : ∀ (j : Nat) (o : Oper) cs b, ops[j]? = some o → o.op ≠ .select cs b) (hT : tailB md ops t0 = true) (hit : i < t0) (ha : isAlloc oi = true) :
    ∀ (f : Nat) (listed : Array Bool) (a : Act) (E : World → Prop), HeadInv md ops t0 listed →
      (∀ j oj, ops[j]? = some oj → j ≠ i → listed.getD j true = false → (∀ e ∈ oj.after, Region.binds md e = true → e.on ≠ i) → oi.apart ops oj = true) →
      i ∈ Region.ready md ops listed → (∀ j oj, ops[j]? = some oj → j < t0 → listed.getD j true = false → isAlloc oj = true) → YieldsA P ops Z oi a →
      (∀ b, B ≤ b → wpU P md ops Q S t0 B Z f (listed.setIfInBounds i true) (a.put oi.dst (.pointer (some ⟨b, 0, none⟩))) (fun w => E w ∧ Fresh b (Z (allocTy oi)) w)) → wpU P md ops Q S t0 B Z (f + 1) listed a E := by
  intro f
  induction f with
  | zero =>
    intro listed a E inv _ hr _ hy H
    refine ⟨fun h => (by rw [h] at hr; cases hr), fun j hj => ?_⟩
    have hjt := ready_lt hT inv hit (mem_ready.1 hr).1 hj
    refine ⟨hjt, ?_⟩
    by_cases hji : j = i
    · subst hji; unfold stepU; simp only [hi, ha, if_true]; exact ⟨hy, H⟩
    · have := seqB_ready (H B (Nat.le_refl _)).1 j (ready_mono hj hji)
      omega
  | succ f ih =>
    intro listed a E inv hfree hr hal hy H
    refine ⟨fun h => (by rw [h] at hr; cases hr), fun j hj => ?_⟩
    have hjt := ready_lt hT inv hit (mem_ready.1 hr).1 hj
    refine ⟨hjt, ?_⟩
    by_cases hji : j = i
    · subst hji; unfold stepU; simp only [hi, ha, if_true]; exact ⟨hy, H⟩
    · obtain ⟨hjun, oj, hoj, hall⟩ := mem_ready.1 hj
      have haj := hal j oj hoj hjt hjun
      have hap := hfree j oj hoj hji hjun (not_waits (j := j) (mem_ready.1 hr).1 hall)
      obtain ⟨a1, a2, a3⟩ := Oper.apart_spec hap
      have hsi := fun cs b => hsel i oi cs b hi
      have hsj := fun cs b => hsel j oj cs b hoj
      have h0 := ((H B (Nat.le_refl _)).2 j (ready_mono hj hji)).2
      unfold stepU at h0 ⊢
      simp only [hoj, haj, if_true] at h0 ⊢
      refine ⟨h0.1.of_same (execOp_put oj hsj a oi.dst _ a1).symm (wanted_put oj a oi.dst _ a1).symm, fun b' hb' => ?_⟩
      refine ih (listed.setIfInBounds j true) _ _ (inv.set hj hjt) (free_later hjun hfree) (ready_mono hr (Ne.symm hji)) (fun k ok hk hkt hun => ?_) (hy.of_same (execOp_put oi hsi a oj.dst _ a3) (wanted_put oi a oj.dst _ a3)) (fun b hb => ?_)
      · by_cases hjk : j = k
        · subst hjk; exact hal j ok hk hkt hjun
        · rw [getD_set_ne true hjk] at hun; exact hal k ok hk hkt hun
      · have h1 := ((H b hb).2 j (ready_mono hj hji)).2
        unfold stepU at h1
        simp only [hoj, haj, if_true] at h1
        have h2 := h1.2 b' hb'
        rw [Array.setIfInBounds_comm _ _ hji, ← Act.put_comm a _ _ a2]
        exact wpU_anti _ _ _ _ _ (fun w hw => ⟨⟨hw.1.1, hw.2⟩, hw.1.2⟩) h2

/-- the walk, in the order of the text -/
def wpHU (P : Program) (md : Region.Mode) (ops : Array Oper) (Q : Exit → Act → World → Prop) (S : World → Prop) (t0 B : Nat) (Z : TypeId → Array Value) (L : Act → World → Prop) : List Oper → Act → (World → Prop) → Prop
  | [], a, E => ∀ w, S w → E w → L a w
  | o :: rest, a, E =>
    (isAlloc o = false ∧ ∃ v, YieldsU P ops S o v a ∧ wpHU P md ops Q S t0 B Z L rest (a.put o.dst v) E) ∨
    (isAlloc o = true ∧ YieldsA P ops Z o a ∧ ∀ b, B ≤ b → wpHU P md ops Q S t0 B Z L rest (a.put o.dst (.pointer (some ⟨b, 0, none⟩))) (fun w => E w ∧ Fresh b (Z (allocTy o)) w))
theorem hu_val {L : Act → World → Prop} {o : Oper} {rest : List Oper} {a : Act} {E : World → Prop} (v : Value) (hna : isAlloc o = false) (hw : Region.wanted o (yielded ops a.tmps) = true) (hy : ∀ w, S w → (execOp a.eval o).run P w = .ok (.value v) w)
    (h : wpHU P md ops Q S t0 B Z L rest (a.put o.dst v) E) : wpHU P md ops Q S t0 B Z L (o :: rest) a E := .inl ⟨hna, v, .inl ⟨hw, fun w hS => .inl (hy w hS)⟩, h⟩
theorem hu_call {L : Act → World → Prop} {o : Oper} {rest : List Oper} {a : Act} {E : World → Prop} (v : Value) (f : FuncId) (args : Array Value) (hna : isAlloc o = false) (hw : Region.wanted o (yielded ops a.tmps) = true) (hy : ∀ w, S w → (execOp a.eval o).run P w = .ok (.enter f args) w)
    (hc : ∀ w, S w → Calls P f args w fun e w' => e = .returned v ∧ Below w.heap.size w w') (h : wpHU P md ops Q S t0 B Z L rest (a.put o.dst v) E) : wpHU P md ops Q S t0 B Z L (o :: rest) a E :=
  .inl ⟨hna, v, .inl ⟨hw, fun w hS => .inr ⟨f, args, hy w hS, hc w hS⟩⟩, h⟩
theorem hu_skip {L : Act → World → Prop} {o : Oper} {rest : List Oper} {a : Act} {E : World → Prop} (hna : isAlloc o = false) (hw : Region.wanted o (yielded ops a.tmps) = false) (h : wpHU P md ops Q S t0 B Z L rest (a.put o.dst undef) E) :
    wpHU P md ops Q S t0 B Z L (o :: rest) a E := .inl ⟨hna, undef, .inr ⟨hw, rfl⟩, h⟩
theorem hu_alloc {L : Act → World → Prop} {o : Oper} {rest : List Oper} {a : Act} {E : World → Prop} (ha : isAlloc o = true) (hy : YieldsA P ops Z o a)
    (h : ∀ b, B ≤ b → wpHU P md ops Q S t0 B Z L rest (a.put o.dst (.pointer (some ⟨b, 0, none⟩))) (fun w => E w ∧ Fresh b (Z (allocTy o)) w)) : wpHU P md ops Q S t0 B Z L (o :: rest) a E := .inr ⟨ha, hy, h⟩

/-- behind number k, are there new variables alone, ahead of t0? -/
def restAllocs (ops : Array Oper) (t0 k : Nat) : Bool := (List.range t0).all fun j => decide (j < k) || match ops[j]? with | some o => isAlloc o | none => false
def headUB (md : Region.Mode) (ops : Array Oper) (t0 : Nat) : Nat → Nat → Array Bool → Bool
  | 0, _, listed => Region.seqB md ops (ops.size - t0) t0 listed
  | f + 1, k, listed => (Region.ready md ops listed).contains k && Region.free md ops listed k && (match ops[k]? with | some o => !isAlloc o || restAllocs ops t0 k | none => false) && headUB md ops t0 f (k + 1) (listed.setIfInBounds k true)

theorem headU_sound (hsel : Region.noSelect ops = true) (hT : tailB md ops t0 = true) : ∀ (l : List Oper) (k : Nat) (listed : Array Bool) (a : Act) (E : World → Prop), HeadInv md ops t0 listed → (∀ j, j < k → listed.getD j true = true) →
    (∀ j, j < l.length → l[j]? = ops[k + j]?) → k + l.length = t0 → headUB md ops t0 l.length k listed = true →
    wpHU P md ops Q S t0 B Z (wpList P ops Q (ops.toList.drop t0)) l a E → wpU P md ops Q S t0 B Z l.length listed a E
  | [], _, _, _, _, _, _, _, _, hB, h => ⟨hB, h⟩
  | o :: l, k, listed, a, E, inv, hdone, hl, hk, hB, h => by
    have h0 : ops[k]? = some o := by simpa using (hl 0 (by simp)).symm
    simp only [List.length_cons, headUB, Bool.and_eq_true, h0] at hB
    obtain ⟨⟨⟨hr, hf⟩, hra⟩, hB'⟩ := hB
    simp only [List.length_cons] at hk
    have hr' : k ∈ Region.ready md ops listed := by simpa using hr
    have hl' : ∀ j, j < l.length → l[j]? = ops[k + 1 + j]? := fun j hj => by have := hl (j + 1) (by simp; omega); simpa [Nat.add_assoc, Nat.add_comm 1 j] using this
    have hkt : k < t0 := by omega
    have hdone' : ∀ j, j < k + 1 → (listed.setIfInBounds k true).getD j true = true := fun j hj => by
      by_cases hjk : k = j
      · subst hjk
        rcases Nat.lt_or_ge k listed.size with h' | h'
        · simp [h']
        · simp [Array.getElem?_eq_none h']
      · rw [getD_set_ne true hjk]; exact hdone j (by omega)
    have next := fun (a' : Act) (E' : World → Prop) => headU_sound hsel hT l (k + 1) (listed.setIfInBounds k true) a' E' (inv.set hr' hkt) hdone' hl' (by omega) hB'
    rcases h with ⟨hna, v, hy, h⟩ | ⟨ha, hy, h⟩
    · exact wpU_first h0 (Region.noSelect_spec hsel) hT hkt hna _ listed a E inv (Region.free_spec h0 hf) hr' hy (next _ _ h)
    · refine wpU_first_alloc h0 (Region.noSelect_spec hsel) hT hkt ha _ listed a E inv (Region.free_spec h0 hf) hr' (fun j oj hj hjt hun => ?_) hy (fun b hb => next _ _ (h b hb))
      simp only [ha, Bool.not_true, Bool.false_or] at hra
      have h1 := List.all_eq_true.1 hra j (List.mem_range.2 hjt)
      rw [hj, Bool.or_eq_true, decide_eq_true_iff] at h1
      rcases h1 with h1 | h1
      · rw [hdone j h1] at hun; cases hun
      · exact h1

def uniB (ops : Array Oper) (t0 : Nat) : Bool := Region.noSelect ops && decide (t0 ≤ ops.size) && tailB .any ops t0 && headUB .any ops t0 t0 0 (Array.replicate ops.size false)

theorem uni_any {a : Act} {w : World} {l : List Oper} (t0 : Nat) (S : World → Prop) (B : Nat) (Z : TypeId → Array Value) (hB : uniB l.toArray t0 = true) (HS : Stable S) (hSB : ∀ w, S w → B ≤ w.heap.size) (hS : S w.drew)
    (h : wpHU P .any l.toArray Q S t0 B Z (wpList P l.toArray Q (l.drop t0)) (l.take t0) a (fun _ => True)) : wpAny P .any l.toArray Q l.toArray.size (Array.replicate l.toArray.size false) a w.drew := by
  simp only [uniB, Bool.and_eq_true, decide_eq_true_eq] at hB
  obtain ⟨⟨⟨hsel, ht0⟩, hT⟩, hB⟩ := hB
  have htl : (l.take t0).length = t0 := by simp at ht0 ⊢; omega
  have inv0 : HeadInv .any l.toArray t0 (Array.replicate l.toArray.size false) :=
    ⟨by simp, fun j oj _ hl => (by rw [getD_replicate_false] at hl; cases hl), fun t _ ht => getD_in (by simpa using ht) (getD_replicate_false _ _)⟩
  have H := headU_sound (P := P) (Q := Q) (S := S) (B := B) (Z := Z) (md := .any) (t0 := t0) hsel hT (l.take t0) 0 (Array.replicate l.toArray.size false) a (fun _ => True) inv0 (fun j hj => absurd hj (Nat.not_lt_zero j)) (fun j hj => by
    have hj' : j < t0 := by rw [htl] at hj; exact hj
    simp [hj']) (by omega) (by rw [htl]; exact hB) h
  have := wpU_sound HS hSB _ _ _ _ w.drew (fun _ _ _ _ => trivial) hS trivial H
  rw [htl, show t0 + (l.toArray.size - t0) = l.toArray.size by omega] at this
  exact this

/-- THE REGION, anywhere -/
theorem wp_region_uni {id : Nat} {a : Act} {w : World} {l : List Oper} (t0 : Nat) (S : World → Prop) (B : Nat) (Z : TypeId → Array Value) (hm : P.follows .mixedOrders = true) (hB : uniB l.toArray t0 = true) (HS : Stable S) (hSB : ∀ w, S w → B ≤ w.heap.size) (hS : S w.drew)
    (h : wpHU P .any l.toArray Q S t0 B Z (wpList P l.toArray Q (l.drop t0)) (l.take t0) a (fun _ => True)) : (Code.region id l.toArray true).wp P Q a w :=
  wp_region_any hm (uni_any t0 S B Z hB HS hSB hS h)
/-- THE REGION, in a round -/
theorem round_region_uni {l0 n : Nat} {id : Nat} {a : Act} {w : World} {l : List Oper} (t0 : Nat) (S : World → Prop) (B : Nat) (Z : TypeId → Array Value) (hLQ : ¬ LetsOut Q) (hnd : noDefer l.toArray = true) (hm : P.follows .mixedOrders = true) (hB : uniB l.toArray t0 = true) (HS : Stable S) (hSB : ∀ w, S w → B ≤ w.heap.size) (hS : S w.drew)
    (h : wpHU P .any l.toArray Q S t0 B Z (wpList P l.toArray Q (l.drop t0)) (l.take t0) a (fun _ => True)) : (Code.region id l.toArray true).wpIn (Fence.wide.inRound l0) n P Q a w :=
  wpIn_region_any hm (wpAny_round hnd hLQ _ _ _ _ (uni_any t0 S B Z hB HS hSB hS h))
end
end Go.Proofs.Ythpmbfdbknikcaa
