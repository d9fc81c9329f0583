/- A region that draws its order, as in Region2, whose head may bear stores too: each into a variable of the region's own, with nothing but copies of values behind it. Anywhere, and in a round. -/
import Derived.Test.YtpeamkplhfddbaaRegion2
set_option linter.unusedVariables false
set_option linter.unusedSimpArgs false
namespace Go.Proofs.Ytpeamkplhfddbaa
open Go Go.RowKit

section
variable {P : Program} {ops : Array Oper} {Q : Exit → Act → World → Prop} {md : Region.Mode} {S : World → Prop} {t0 B : Nat} {Z : TypeId → Array Value}

def isStore (o : Oper) : Bool := match o.op with | .store .. => true | _ => false
def copyOf (o : Oper) : Option Operand := match o.op with | .move x => some x | .assign x => some x | _ => none
theorem copy_run {o : Oper} {x : Operand} (h : copyOf o = some x) (ρ : Operand → Value) (w : World) : (execOp ρ o).run P w = .ok (.value (ρ x)) w := by
  unfold copyOf at h
  split at h
  · rename_i y e; cases h; unfold execOp; simp [e]
  · rename_i y e; cases h; unfold execOp; simp [e]
  · cases h
/-- what a copy lays -/
def cv (ops : Array Oper) (o : Oper) (x : Operand) (a : Act) : Value := if Region.wanted o (yielded ops a.tmps) = true then a.eval x else undef
theorem cv_put {o : Oper} {x : Operand} (h : copyOf o = some x) (hsel : ∀ cs b, o.op ≠ .select cs b) (a : Act) (dst : Option Tmp) (v : Value) (hd : ∀ d, dst = some d → d ∉ o.looksAt ops) : cv ops o x (a.put dst v) = cv ops o x a := by
  unfold cv
  rw [wanted_put o a dst v hd]
  have e := execOp_put o hsel a dst v hd
  have e2 : (a.put dst v).eval x = a.eval x := by
    have h1 := copy_run (P := { (default : Program) with }) h (a.put dst v).eval default
    have h2 := copy_run (P := { (default : Program) with }) h a.eval default
    rw [e, h2] at h1
    injection h1 with h1 _
    injection h1 with h1
    exact h1.symm
  rw [e2]
def YieldsS (P : Program) (ops : Array Oper) (S E E' : World → Prop) (o : Oper) (a : Act) : Prop :=
  Region.wanted o (yielded ops a.tmps) = true ∧ (∀ w, S w → E w → ∃ w', (execOp a.eval o).run P w = .ok .skip w' ∧ S w' ∧ E' w') ∧ Stable E'
theorem YieldsS.of_same {E E' : World → Prop} {o : Oper} {a a' : Act} (hy : YieldsS P ops S E E' o a) (he : execOp a'.eval o = execOp a.eval o) (hw : Region.wanted o (yielded ops a'.tmps) = Region.wanted o (yielded ops a.tmps)) : YieldsS P ops S E E' o a' := by
  unfold YieldsS at *; rw [he, hw]; exact hy
theorem YieldsS.wpOp {E E' : World → Prop} {i : Nat} {o : Oper} {a : Act} (hi : ops[i]? = some o) (hy : YieldsS P ops S E E' o a) {K : Act → World → Prop} {w : World} (hS : S w) (hE : E w)
    (h : ∀ w', S w' → E' w' → K (a.put o.dst undef) w') : wpOp P ops Q i K a w := by
  unfold Go.wpOp
  obtain ⟨hw, hr, _⟩ := hy
  obtain ⟨w', e, hS', hE'⟩ := hr w hS hE
  simp only [hi, hw, if_true, Oper.wp, e]
  exact .inl (h w' hS' hE')
theorem copy_wpOp {i : Nat} {o : Oper} {x : Operand} {a : Act} (hi : ops[i]? = some o) (hc : copyOf o = some x) {K : Act → World → Prop} {w : World} (h : K (a.put o.dst (cv ops o x a)) w) : wpOp P ops Q i K a w := by
  unfold Go.wpOp
  unfold cv at h
  by_cases hw : Region.wanted o (yielded ops a.tmps) = true
  · simp only [hw, if_true] at h
    simp only [hi, hw, if_true, Oper.wp, copy_run hc]
    exact .inl h
  · simp only [hw] at h
    simp only [hi, hw]; exact h

def stepV (P : Program) (ops : Array Oper) (S : World → Prop) (B : Nat) (Z : TypeId → Array Value) (i : Nat) (K : Act → (World → Prop) → Prop) (a : Act) (E : World → Prop) : Prop :=
  match ops[i]? with
  | none => False
  | some o => if isAlloc o = true then YieldsA P ops Z o a ∧ ∀ b, B ≤ b → K (a.put o.dst (.pointer (some ⟨b, 0, none⟩))) (fun w => E w ∧ Fresh b (Z (allocTy o)) w)
    else if isStore o = true then ∃ E', YieldsS P ops S E E' o a ∧ K (a.put o.dst undef) E'
    else match copyOf o with
      | some x => K (a.put o.dst (cv ops o x a)) E
      | none => ∃ v, YieldsU P ops S o v a ∧ K (a.put o.dst v) E
def wpV (P : Program) (md : Region.Mode) (ops : Array Oper) (Q : Exit → Act → World → Prop) (S : World → Prop) (t0 B : Nat) (Z : TypeId → Array Value) : Nat → Array Bool → Act → (World → Prop) → Prop
  | 0, listed, a, E => Region.seqB md ops (ops.size - t0) t0 listed = true ∧ ∀ w, S w → E w → wpList P ops Q (ops.toList.drop t0) a w
  | f + 1, listed, a, E => Region.ready md ops listed ≠ [] ∧ ∀ i ∈ Region.ready md ops listed, i < t0 ∧ stepV P ops S B Z i (wpV P md ops Q S t0 B Z f (listed.setIfInBounds i true)) a E

theorem wpV_anti : ∀ (f : Nat) (listed : Array Bool) (a : Act) (E E' : World → Prop), (∀ w, E' w → E w) → wpV P md ops Q S t0 B Z f listed a E → wpV P md ops Q S t0 B Z f listed a E'
  | 0, _, _, _, _, hE, h => ⟨h.1, fun w hS h' => h.2 w hS (hE w h')⟩
  | f + 1, listed, a, E, E', hE, h => ⟨h.1, fun i hi => ⟨(h.2 i hi).1, by
    have hs := (h.2 i hi).2
    unfold stepV at *
    split at hs
    · exact hs
    · split at hs
      · rename_i h1; simp only [h1, if_true]; exact ⟨hs.1, fun b hb => wpV_anti f _ _ _ _ (fun w hw => ⟨hE w hw.1, hw.2⟩) (hs.2 b hb)⟩
      · rename_i h1
        simp only [h1]
        split at hs
        · rename_i h2
          simp only [h2, if_true]
          obtain ⟨E1, ⟨y1, y2, y3⟩, hK⟩ := hs
          exact ⟨E1, ⟨y1, fun w hS h' => y2 w hS (hE w h'), y3⟩, hK⟩
        · rename_i h2
          simp only [h2]
          split at hs
          · exact wpV_anti f _ _ _ _ hE hs
          · obtain ⟨v, hy, hK⟩ := hs; exact ⟨v, hy, wpV_anti f _ _ _ _ hE hK⟩⟩⟩

/-- it holds of the draw -/
theorem wpV_sound (HS : Stable S) (hSB : ∀ w, S w → B ≤ w.heap.size) : ∀ (f : Nat) (listed : Array Bool) (a : Act) (E : World → Prop) (w : World), Stable E → S w → E w →
    wpV P md ops Q S t0 B Z f listed a E → wpAny P md ops Q (f + (ops.size - t0)) listed a w
  | 0, listed, a, E, w, _, hS, hE, h => by
    have hd : (ops.toList.drop t0).length = ops.size - t0 := by simp
    have := wpAny_of_seq (md := md) (ops.toList.drop t0) t0 listed a w (fun j => by simp [List.getElem?_drop]) (by rw [hd]; exact h.1) (h.2 w hS hE)
    rw [hd] at this
    rw [Nat.zero_add]; exact this
  | f + 1, listed, a, E, w, HE, hS, hE, h => by
    rw [show f + 1 + (ops.size - t0) = (f + (ops.size - t0)) + 1 by omega]
    refine ⟨fun h0 => absurd h0 h.1, fun i hi => ?_⟩
    have hs := (h.2 i hi).2
    unfold stepV at hs
    split at hs
    · exact hs.elim
    · rename_i o ho
      split at hs
      · exact hs.1.wpOp ho (wpV_sound HS hSB f _ _ _ _ (fun u u' hu hb => ⟨HE u u' hu.1 hb, Fresh.stable _ _ u u' hu.2 hb⟩) (HS w _ hS ((Below.refl _ _).alloc (Nat.le_refl _) _)) ⟨HE w _ hE ((Below.refl _ _).alloc (Nat.le_refl _) _), Fresh.new w _ _⟩ (hs.2 w.heap.size (hSB w hS)))
      · split at hs
        · obtain ⟨E1, hy, hK⟩ := hs
          exact hy.wpOp ho hS hE fun w' hS' hE' => wpV_sound HS hSB f _ _ _ _ hy.2.2 hS' hE' hK
        · split at hs
          · rename_i x hx
            exact copy_wpOp ho hx (wpV_sound HS hSB f _ _ _ _ HE hS hE hs)
          · obtain ⟨v, hy, hK⟩ := hs
            exact hy.wpOp ho hS fun w' hb => wpV_sound HS hSB f _ _ _ _ HE (HS w w' hS hb) (HE w w' hE hb) hK

/-- what one operation, taken first, leaves of the other ones: the same steps -/
theorem stepV_swap {j : Nat} {oi oj : Oper} {v : Value} (hoj : ops[j]? = some oj) (hap : oi.apart ops oj = true) (hsj : ∀ cs b, oj.op ≠ .select cs b) {K K' : Act → (World → Prop) → Prop} {a : Act} {E : World → Prop}
    (next : ∀ (u : Value) (E' : World → Prop), K ((a.put oi.dst v).put oj.dst u) E' → K' (a.put oj.dst u) E') (h1 : stepV P ops S B Z j K (a.put oi.dst v) E) : stepV P ops S B Z j K' a E := by
  obtain ⟨a1, a2, a3⟩ := Oper.apart_spec hap
  unfold stepV at *
  simp only [hoj] at *
  split at h1
  · rename_i k; simp only [k, if_true]
    exact ⟨h1.1.of_same (execOp_put oj hsj a oi.dst v a1).symm (wanted_put oj a oi.dst v a1).symm, fun b hb => next _ _ (h1.2 b hb)⟩
  · rename_i k; simp only [k]
    split at h1
    · rename_i k2; simp only [k2, if_true]
      obtain ⟨E1, hy, hK⟩ := h1
      exact ⟨E1, hy.of_same (execOp_put oj hsj a oi.dst v a1).symm (wanted_put oj a oi.dst v a1).symm, next _ _ hK⟩
    · rename_i k2; simp only [k2]
      split at h1
      · rename_i x hx
        rw [cv_put hx hsj a oi.dst v a1] at h1
        exact next _ _ h1
      · obtain ⟨u, hyu, hK⟩ := h1
        exact ⟨u, hyu.of_same (execOp_put oj hsj a oi.dst v a1).symm (wanted_put oj a oi.dst v a1).symm, next _ _ hK⟩

theorem wpV_first {i : Nat} {oi : Oper} {v : Value} (hi : ops[i]? = some oi) (hsel : ∀ (j : Nat) (o : Oper) cs b, ops[j]? = some o → o.op ≠ .select cs b) (hT : tailB md ops t0 = true) (hit : i < t0) (hna : isAlloc oi = false) (hns : isStore oi = false) (hnc : copyOf oi = none) :
    ∀ (f : Nat) (listed : Array Bool) (a : Act) (E : World → Prop), HeadInv md ops t0 listed →
      (∀ j oj, ops[j]? = some oj → j ≠ i → listed.getD j true = false → (∀ e ∈ oj.after, Region.binds md e = true → e.on ≠ i) → oi.apart ops oj = true) →
      i ∈ Region.ready md ops listed → YieldsU P ops S oi v a →
      wpV P md ops Q S t0 B Z f (listed.setIfInBounds i true) (a.put oi.dst v) E → wpV P md ops Q S t0 B Z (f + 1) listed a E := by
  intro f
  induction f with
  | zero =>
    intro listed a E inv _ hr hy H
    refine ⟨fun h => (by rw [h] at hr; cases hr), fun j hj => ?_⟩
    have hjt := ready_lt hT inv hit (mem_ready.1 hr).1 hj
    refine ⟨hjt, ?_⟩
    by_cases hji : j = i
    · subst hji; unfold stepV; simp only [hi, hna, hns, hnc]; exact ⟨v, hy, H⟩
    · have := seqB_ready H.1 j (ready_mono hj hji)
      omega
  | succ f ih =>
    intro listed a E inv hfree hr hy H
    refine ⟨fun h => (by rw [h] at hr; cases hr), fun j hj => ?_⟩
    have hjt := ready_lt hT inv hit (mem_ready.1 hr).1 hj
    refine ⟨hjt, ?_⟩
    by_cases hji : j = i
    · subst hji; unfold stepV; simp only [hi, hna, hns, hnc]; exact ⟨v, hy, H⟩
    · have h1 := (H.2 j (ready_mono hj hji)).2
      obtain ⟨hjun, oj, hoj, hall⟩ := mem_ready.1 hj
      have hap := hfree j oj hoj hji hjun (not_waits (j := j) (mem_ready.1 hr).1 hall)
      obtain ⟨a1, a2, a3⟩ := Oper.apart_spec hap
      refine stepV_swap hoj hap (fun cs b => hsel j oj cs b hoj) (fun u E' h2 => ?_) h1
      refine ih (listed.setIfInBounds j true) (a.put oj.dst u) E' (inv.set hj hjt) (free_later hjun hfree) (ready_mono hr (Ne.symm hji)) (hy.of_same (execOp_put oi (fun cs b => hsel i oi cs b hi) a oj.dst u a3) (wanted_put oi a oj.dst u a3)) ?_
      rw [Array.setIfInBounds_comm _ _ hji, ← Act.put_comm a v u a2]
      exact h2
theorem wpV_first_copy {i : Nat} {oi : Oper} {x : Operand} (hi : ops[i]? = some oi) (hsel : ∀ (j : Nat) (o : Oper) cs b, ops[j]? = some o → o.op ≠ .select cs b) (hT : tailB md ops t0 = true) (hit : i < t0) (hna : isAlloc oi = false) (hns : isStore oi = false) (hc : copyOf oi = some x) :
    ∀ (f : Nat) (listed : Array Bool) (a : Act) (E : World → Prop), HeadInv md ops t0 listed →
      (∀ j oj, ops[j]? = some oj → j ≠ i → listed.getD j true = false → (∀ e ∈ oj.after, Region.binds md e = true → e.on ≠ i) → oi.apart ops oj = true) →
      i ∈ Region.ready md ops listed →
      wpV P md ops Q S t0 B Z f (listed.setIfInBounds i true) (a.put oi.dst (cv ops oi x a)) E → wpV P md ops Q S t0 B Z (f + 1) listed a E := by
  intro f
  induction f with
  | zero =>
    intro listed a E inv _ hr H
    refine ⟨fun h => (by rw [h] at hr; cases hr), fun j hj => ?_⟩
    have hjt := ready_lt hT inv hit (mem_ready.1 hr).1 hj
    refine ⟨hjt, ?_⟩
    by_cases hji : j = i
    · subst hji; unfold stepV; simp only [hi, hna, hns, hc]; exact H
    · have := seqB_ready H.1 j (ready_mono hj hji)
      omega
  | succ f ih =>
    intro listed a E inv hfree hr H
    refine ⟨fun h => (by rw [h] at hr; cases hr), fun j hj => ?_⟩
    have hjt := ready_lt hT inv hit (mem_ready.1 hr).1 hj
    refine ⟨hjt, ?_⟩
    by_cases hji : j = i
    · subst hji; unfold stepV; simp only [hi, hna, hns, hc]; exact H
    · have h1 := (H.2 j (ready_mono hj hji)).2
      obtain ⟨hjun, oj, hoj, hall⟩ := mem_ready.1 hj
      have hap := hfree j oj hoj hji hjun (not_waits (j := j) (mem_ready.1 hr).1 hall)
      obtain ⟨a1, a2, a3⟩ := Oper.apart_spec hap
      refine stepV_swap hoj hap (fun cs b => hsel j oj cs b hoj) (fun u E' h2 => ?_) h1
      refine ih (listed.setIfInBounds j true) (a.put oj.dst u) E' (inv.set hj hjt) (free_later hjun hfree) (ready_mono hr (Ne.symm hji)) ?_
      rw [cv_put hc (fun cs b => hsel i oi cs b hi) a oj.dst u a3, Array.setIfInBounds_comm _ _ hji, ← Act.put_comm a _ u a2]
      exact h2
theorem wpV_first_store {i : Nat} {oi : Oper} {E1 : World → Prop} (hi : ops[i]? = some oi) (hsel : ∀ (j : Nat) (o : Oper) cs b, ops[j]? = some o → o.op ≠ .select cs b) (hT : tailB md ops t0 = true) (hit : i < t0) (hna : isAlloc oi = false) (hs : isStore oi = true) :
    ∀ (f : Nat) (listed : Array Bool) (a : Act) (E : World → Prop), HeadInv md ops t0 listed →
      (∀ j oj, ops[j]? = some oj → j ≠ i → listed.getD j true = false → (∀ e ∈ oj.after, Region.binds md e = true → e.on ≠ i) → oi.apart ops oj = true) →
      i ∈ Region.ready md ops listed → (∀ j oj, ops[j]? = some oj → j < t0 → j ≠ i → listed.getD j true = false → isAlloc oj = false ∧ isStore oj = false ∧ (copyOf oj).isSome = true) → YieldsS P ops S E E1 oi a →
      wpV P md ops Q S t0 B Z f (listed.setIfInBounds i true) (a.put oi.dst undef) E1 → wpV P md ops Q S t0 B Z (f + 1) listed a E := by
  intro f
  induction f with
  | zero =>
    intro listed a E inv _ hr _ hy H
    refine ⟨fun h => (by rw [h] at hr; cases hr), fun j hj => ?_⟩
    have hjt := ready_lt hT inv hit (mem_ready.1 hr).1 hj
    refine ⟨hjt, ?_⟩
    by_cases hji : j = i
    · subst hji; unfold stepV; simp only [hi, hna, hs, if_true]; exact ⟨E1, hy, H⟩
    · have := seqB_ready H.1 j (ready_mono hj hji)
      omega
  | succ f ih =>
    intro listed a E inv hfree hr hal hy H
    refine ⟨fun h => (by rw [h] at hr; cases hr), fun j hj => ?_⟩
    have hjt := ready_lt hT inv hit (mem_ready.1 hr).1 hj
    refine ⟨hjt, ?_⟩
    by_cases hji : j = i
    · subst hji; unfold stepV; simp only [hi, hna, hs, if_true]; exact ⟨E1, hy, H⟩
    · obtain ⟨hjun, oj, hoj, hall⟩ := mem_ready.1 hj
      obtain ⟨b1, b2, b3⟩ := hal j oj hoj hjt hji hjun
      obtain ⟨x, hx⟩ := Option.isSome_iff_exists.1 b3
      have hap := hfree j oj hoj hji hjun (not_waits (j := j) (mem_ready.1 hr).1 hall)
      obtain ⟨a1, a2, a3⟩ := Oper.apart_spec hap
      have h1 := (H.2 j (ready_mono hj hji)).2
      unfold stepV at h1 ⊢
      simp only [hoj, b1, b2, hx] at h1 ⊢
      rw [cv_put hx (fun cs b => hsel j oj cs b hoj) a oi.dst undef a1] at h1
      refine ih (listed.setIfInBounds j true) _ E (inv.set hj hjt) (free_later hjun hfree) (ready_mono hr (Ne.symm hji)) (fun k ok hk hkt hki hun => ?_) (hy.of_same (execOp_put oi (fun cs b => hsel i oi cs b hi) a oj.dst _ a3) (wanted_put oi a oj.dst _ a3)) ?_
      · by_cases hjk : j = k
        · subst hjk; exact hal j ok hk hkt hki hjun
        · rw [getD_set_ne true hjk] at hun; exact hal k ok hk hkt hki hun
      · rw [Array.setIfInBounds_comm _ _ hji, ← Act.put_comm a _ _ a2]
        exact h1
theorem wpV_first_alloc {i : Nat} {oi : Oper} (hi : ops[i]? = some oi) (hsel : ∀ (j : Nat) (o : Oper) cs b, ops[j]? = some o → o.op ≠ .select cs b) (hT : tailB md ops t0 = true) (hit : i < t0) (ha : isAlloc oi = true) :
    ∀ (f : Nat) (listed : Array Bool) (a : Act) (E : World → Prop), HeadInv md ops t0 listed →
      (∀ j oj, ops[j]? = some oj → j ≠ i → listed.getD j true = false → (∀ e ∈ oj.after, Region.binds md e = true → e.on ≠ i) → oi.apart ops oj = true) →
      i ∈ Region.ready md ops listed →
      (∀ j oj, ops[j]? = some oj → j < t0 → listed.getD j true = false → isAlloc oj = true ∨ (isAlloc oj = false ∧ isStore oj = false ∧ (copyOf oj).isSome = true) ∨ (∃ e ∈ oj.after, Region.binds md e = true ∧ e.on = i)) → YieldsA P ops Z oi a →
      (∀ b, B ≤ b → wpV P md ops Q S t0 B Z f (listed.setIfInBounds i true) (a.put oi.dst (.pointer (some ⟨b, 0, none⟩))) (fun w => E w ∧ Fresh b (Z (allocTy oi)) w)) → wpV P md ops Q S t0 B Z (f + 1) listed a E := by
  intro f
  induction f with
  | zero =>
    intro listed a E inv _ hr _ hy H
    refine ⟨fun h => (by rw [h] at hr; cases hr), fun j hj => ?_⟩
    have hjt := ready_lt hT inv hit (mem_ready.1 hr).1 hj
    refine ⟨hjt, ?_⟩
    by_cases hji : j = i
    · subst hji; unfold stepV; simp only [hi, ha, if_true]; exact ⟨hy, H⟩
    · have := seqB_ready (H B (Nat.le_refl _)).1 j (ready_mono hj hji)
      omega
  | succ f ih =>
    intro listed a E inv hfree hr hal hy H
    refine ⟨fun h => (by rw [h] at hr; cases hr), fun j hj => ?_⟩
    have hjt := ready_lt hT inv hit (mem_ready.1 hr).1 hj
    refine ⟨hjt, ?_⟩
    by_cases hji : j = i
    · subst hji; unfold stepV; simp only [hi, ha, if_true]; exact ⟨hy, H⟩
    · obtain ⟨hjun, oj, hoj, hall⟩ := mem_ready.1 hj
      have hap := hfree j oj hoj hji hjun (not_waits (j := j) (mem_ready.1 hr).1 hall)
      obtain ⟨a1, a2, a3⟩ := Oper.apart_spec hap
      have hsi := fun cs b => hsel i oi cs b hi
      have hsj := fun cs b => hsel j oj cs b hoj
      have hal' : ∀ k ok, ops[k]? = some ok → k < t0 → (listed.setIfInBounds j true).getD k true = false → isAlloc ok = true ∨ (isAlloc ok = false ∧ isStore ok = false ∧ (copyOf ok).isSome = true) ∨ (∃ e ∈ ok.after, Region.binds md e = true ∧ e.on = i) := fun k ok hk hkt hun => by
        by_cases hjk : j = k
        · subst hjk; exact hal j ok hk hkt hjun
        · rw [getD_set_ne true hjk] at hun; exact hal k ok hk hkt hun
      have h0 := ((H B (Nat.le_refl _)).2 j (ready_mono hj hji)).2
      rcases hal j oj hoj hjt hjun with haj | ⟨b1, b2, b3⟩ | ⟨e, he, hb, hon⟩
      · unfold stepV at h0 ⊢
        simp only [hoj, haj, if_true] at h0 ⊢
        refine ⟨h0.1.of_same (execOp_put oj hsj a oi.dst _ a1).symm (wanted_put oj a oi.dst _ a1).symm, fun b' hb' => ?_⟩
        refine ih (listed.setIfInBounds j true) _ _ (inv.set hj hjt) (free_later hjun hfree) (ready_mono hr (Ne.symm hji)) hal' (hy.of_same (execOp_put oi hsi a oj.dst _ a3) (wanted_put oi a oj.dst _ a3)) (fun b hb => ?_)
        have h1 := ((H b hb).2 j (ready_mono hj hji)).2
        unfold stepV at h1
        simp only [hoj, haj, if_true] at h1
        have h2 := h1.2 b' hb'
        rw [Array.setIfInBounds_comm _ _ hji, ← Act.put_comm a _ _ a2]
        exact wpV_anti _ _ _ _ _ (fun w hw => ⟨⟨hw.1.1, hw.2⟩, hw.1.2⟩) h2
      · obtain ⟨x, hx⟩ := Option.isSome_iff_exists.1 b3
        unfold stepV
        simp only [hoj, b1, b2, hx]
        refine ih (listed.setIfInBounds j true) _ _ (inv.set hj hjt) (free_later hjun hfree) (ready_mono hr (Ne.symm hji)) hal' (hy.of_same (execOp_put oi hsi a oj.dst _ a3) (wanted_put oi a oj.dst _ a3)) (fun b hb => ?_)
        have h1 := ((H b hb).2 j (ready_mono hj hji)).2
        unfold stepV at h1
        simp only [hoj, b1, b2, hx] at h1
        rw [cv_put hx hsj a oi.dst _ a1] at h1
        rw [Array.setIfInBounds_comm _ _ hji, ← Act.put_comm a _ _ a2]
        exact h1
      · exact absurd hon (not_waits (j := j) (mem_ready.1 hr).1 hall e he hb)

/-- the walk, in the order of the text -/
def wpHV (P : Program) (md : Region.Mode) (ops : Array Oper) (Q : Exit → Act → World → Prop) (S : World → Prop) (t0 B : Nat) (Z : TypeId → Array Value) (L : Act → World → Prop) : List Oper → Act → (World → Prop) → Prop
  | [], a, E => ∀ w, S w → E w → L a w
  | o :: rest, a, E =>
    (isAlloc o = false ∧ isStore o = false ∧ copyOf o = none ∧ ∃ v, YieldsU P ops S o v a ∧ wpHV P md ops Q S t0 B Z L rest (a.put o.dst v) E) ∨
    (isAlloc o = true ∧ YieldsA P ops Z o a ∧ ∀ b, B ≤ b → wpHV P md ops Q S t0 B Z L rest (a.put o.dst (.pointer (some ⟨b, 0, none⟩))) (fun w => E w ∧ Fresh b (Z (allocTy o)) w)) ∨
    (isAlloc o = false ∧ isStore o = true ∧ ∃ E', YieldsS P ops S E E' o a ∧ wpHV P md ops Q S t0 B Z L rest (a.put o.dst undef) E') ∨
    (isAlloc o = false ∧ isStore o = false ∧ ∃ x, copyOf o = some x ∧ wpHV P md ops Q S t0 B Z L rest (a.put o.dst (cv ops o x a)) E)
theorem hv_val {L : Act → World → Prop} {o : Oper} {rest : List Oper} {a : Act} {E : World → Prop} (v : Value) (hna : isAlloc o = false) (hns : isStore o = false) (hnc : copyOf o = none) (hw : Region.wanted o (yielded ops a.tmps) = true) (hy : ∀ w, S w → (execOp a.eval o).run P w = .ok (.value v) w)
    (h : wpHV P md ops Q S t0 B Z L rest (a.put o.dst v) E) : wpHV P md ops Q S t0 B Z L (o :: rest) a E := .inl ⟨hna, hns, hnc, v, .inl ⟨hw, fun w hS => .inl (hy w hS)⟩, h⟩
theorem hv_call {L : Act → World → Prop} {o : Oper} {rest : List Oper} {a : Act} {E : World → Prop} (v : Value) (f : FuncId) (args : Array Value) (hna : isAlloc o = false) (hns : isStore o = false) (hnc : copyOf o = none) (hw : Region.wanted o (yielded ops a.tmps) = true) (hy : ∀ w, S w → (execOp a.eval o).run P w = .ok (.enter f args) w)
    (hc : ∀ w, S w → Calls P f args w fun e w' => e = .returned v ∧ Below w.heap.size w w') (h : wpHV P md ops Q S t0 B Z L rest (a.put o.dst v) E) : wpHV P md ops Q S t0 B Z L (o :: rest) a E :=
  .inl ⟨hna, hns, hnc, v, .inl ⟨hw, fun w hS => .inr ⟨f, args, hy w hS, hc w hS⟩⟩, h⟩
theorem hv_alloc {L : Act → World → Prop} {o : Oper} {rest : List Oper} {a : Act} {E : World → Prop} (ha : isAlloc o = true) (hy : YieldsA P ops Z o a)
    (h : ∀ b, B ≤ b → wpHV P md ops Q S t0 B Z L rest (a.put o.dst (.pointer (some ⟨b, 0, none⟩))) (fun w => E w ∧ Fresh b (Z (allocTy o)) w)) : wpHV P md ops Q S t0 B Z L (o :: rest) a E := .inr (.inl ⟨ha, hy, h⟩)
theorem hv_store {L : Act → World → Prop} {o : Oper} {rest : List Oper} {a : Act} {E : World → Prop} (E' : World → Prop) (hna : isAlloc o = false) (hs : isStore o = true) (hw : Region.wanted o (yielded ops a.tmps) = true) (hE : Stable E') (hy : ∀ w, S w → E w → ∃ w', (execOp a.eval o).run P w = .ok .skip w' ∧ S w' ∧ E' w')
    (h : wpHV P md ops Q S t0 B Z L rest (a.put o.dst undef) E') : wpHV P md ops Q S t0 B Z L (o :: rest) a E := .inr (.inr (.inl ⟨hna, hs, E', ⟨hw, hy, hE⟩, h⟩))
theorem hv_copy {L : Act → World → Prop} {o : Oper} {rest : List Oper} {a : Act} {E : World → Prop} (x : Operand) (v : Value) (hna : isAlloc o = false) (hns : isStore o = false) (hc : copyOf o = some x) (hw : Region.wanted o (yielded ops a.tmps) = true) (hv : a.eval x = v)
    (h : wpHV P md ops Q S t0 B Z L rest (a.put o.dst v) E) : wpHV P md ops Q S t0 B Z L (o :: rest) a E := .inr (.inr (.inr ⟨hna, hns, x, hc, by unfold cv; rw [if_pos hw, hv]; exact h⟩))

/-- behind number k: new variables, copies, and stores that wait for it -/
def restV (md : Region.Mode) (ops : Array Oper) (t0 k : Nat) : Bool := (List.range t0).all fun j => decide (j < k) || match ops[j]? with
  | some o => isAlloc o || (!isAlloc o && !isStore o && (copyOf o).isSome) || o.after.any (fun e => Region.binds md e && (e.on == k))
  | none => false
def restS (ops : Array Oper) (t0 k : Nat) : Bool := (List.range t0).all fun j => decide (j ≤ k) || match ops[j]? with | some o => !isAlloc o && !isStore o && (copyOf o).isSome | none => false
def headVB (md : Region.Mode) (ops : Array Oper) (t0 : Nat) : Nat → Nat → Array Bool → Bool
  | 0, _, listed => Region.seqB md ops (ops.size - t0) t0 listed
  | f + 1, k, listed => (Region.ready md ops listed).contains k && Region.free md ops listed k && (match ops[k]? with | some o => (!isAlloc o || restV md ops t0 k) && (!isStore o || restS ops t0 k) | none => false) && headVB md ops t0 f (k + 1) (listed.setIfInBounds k true)

theorem headV_sound (hsel : Region.noSelect ops = true) (hT : tailB md ops t0 = true) : ∀ (l : List Oper) (k : Nat) (listed : Array Bool) (a : Act) (E : World → Prop), HeadInv md ops t0 listed → (∀ j, j < k → listed.getD j true = true) →
    (∀ j, j < l.length → l[j]? = ops[k + j]?) → k + l.length = t0 → headVB md ops t0 l.length k listed = true →
    wpHV P md ops Q S t0 B Z (wpList P ops Q (ops.toList.drop t0)) l a E → wpV P md ops Q S t0 B Z l.length listed a E
  | [], _, _, _, _, _, _, _, _, hB, h => ⟨hB, h⟩
  | o :: l, k, listed, a, E, inv, hdone, hl, hk, hB, h => by
    have h0 : ops[k]? = some o := by simpa using (hl 0 (by simp)).symm
    simp only [List.length_cons, headVB, Bool.and_eq_true, h0] at hB
    obtain ⟨⟨⟨hr, hf⟩, hra, hrs⟩, hB'⟩ := hB
    simp only [List.length_cons] at hk
    have hr' : k ∈ Region.ready md ops listed := by simpa using hr
    have hl' : ∀ j, j < l.length → l[j]? = ops[k + 1 + j]? := fun j hj => by have := hl (j + 1) (by simp; omega); simpa [Nat.add_assoc, Nat.add_comm 1 j] using this
    have hkt : k < t0 := by omega
    have hdone' : ∀ j, j < k + 1 → (listed.setIfInBounds k true).getD j true = true := fun j hj => by
      by_cases hjk : k = j
      · subst hjk
        rcases Nat.lt_or_ge k listed.size with h' | h'
        · simp [h']
        · simp [Array.getElem?_eq_none h']
      · rw [getD_set_ne true hjk]; exact hdone j (by omega)
    have next := fun (a' : Act) (E' : World → Prop) => headV_sound hsel hT l (k + 1) (listed.setIfInBounds k true) a' E' (inv.set hr' hkt) hdone' hl' (by omega) hB'
    rcases h with ⟨hna, hns, hnc, v, hy, h⟩ | ⟨ha, hy, h⟩ | ⟨hna, hs, E1, hy, h⟩ | ⟨hna, hns, x, hc, h⟩
    · exact wpV_first h0 (Region.noSelect_spec hsel) hT hkt hna hns hnc _ listed a E inv (Region.free_spec h0 hf) hr' hy (next _ _ h)
    · refine wpV_first_alloc h0 (Region.noSelect_spec hsel) hT hkt ha _ listed a E inv (Region.free_spec h0 hf) hr' (fun j oj hj hjt hun => ?_) hy (fun b hb => next _ _ (h b hb))
      simp only [ha, Bool.not_true, Bool.false_or] at hra
      have h1 := List.all_eq_true.1 hra j (List.mem_range.2 hjt)
      rw [hj, Bool.or_eq_true, decide_eq_true_iff] at h1
      rcases h1 with h1 | h1
      · rw [hdone j h1] at hun; cases hun
      · simp only [Bool.or_eq_true, Bool.and_eq_true, Bool.not_eq_true', Array.any_eq_true', beq_iff_eq] at h1
        rcases h1 with (h1 | h1) | ⟨e, he, h1⟩
        · exact .inl h1
        · exact .inr (.inl ⟨h1.1.1, h1.1.2, h1.2⟩)
        · exact .inr (.inr ⟨e, he, h1⟩)
    · refine wpV_first_store h0 (Region.noSelect_spec hsel) hT hkt hna hs _ listed a E inv (Region.free_spec h0 hf) hr' (fun j oj hj hjt hji hun => ?_) hy (next _ _ h)
      simp only [hs, Bool.not_true, Bool.false_or] at hrs
      have h1 := List.all_eq_true.1 hrs j (List.mem_range.2 hjt)
      rw [hj, Bool.or_eq_true, decide_eq_true_iff] at h1
      rcases h1 with h1 | h1
      · rw [hdone j (by omega)] at hun; cases hun
      · simp only [Bool.and_eq_true, Bool.not_eq_true'] at h1
        exact ⟨h1.1.1, h1.1.2, h1.2⟩
    · exact wpV_first_copy h0 (Region.noSelect_spec hsel) hT hkt hna hns hc _ listed a E inv (Region.free_spec h0 hf) hr' (next _ _ h)

def uniVB (ops : Array Oper) (t0 : Nat) : Bool := Region.noSelect ops && decide (t0 ≤ ops.size) && tailB .any ops t0 && headVB .any ops t0 t0 0 (Array.replicate ops.size false)

theorem univ_any {a : Act} {w : World} {l : List Oper} (t0 : Nat) (S : World → Prop) (B : Nat) (Z : TypeId → Array Value) (hB : uniVB l.toArray t0 = true) (HS : Stable S) (hSB : ∀ w, S w → B ≤ w.heap.size) (hS : S w.drew)
    (h : wpHV P .any l.toArray Q S t0 B Z (wpList P l.toArray Q (l.drop t0)) (l.take t0) a (fun _ => True)) : wpAny P .any l.toArray Q l.toArray.size (Array.replicate l.toArray.size false) a w.drew := by
  simp only [uniVB, Bool.and_eq_true, decide_eq_true_eq] at hB
  obtain ⟨⟨⟨hsel, ht0⟩, hT⟩, hB⟩ := hB
  have htl : (l.take t0).length = t0 := by simp at ht0 ⊢; omega
  have inv0 : HeadInv .any l.toArray t0 (Array.replicate l.toArray.size false) :=
    ⟨by simp, fun j oj _ hl => (by rw [getD_replicate_false] at hl; cases hl), fun t _ ht => getD_in (by simpa using ht) (getD_replicate_false _ _)⟩
  have H := headV_sound (P := P) (Q := Q) (S := S) (B := B) (Z := Z) (md := .any) (t0 := t0) hsel hT (l.take t0) 0 (Array.replicate l.toArray.size false) a (fun _ => True) inv0 (fun j hj => absurd hj (Nat.not_lt_zero j)) (fun j hj => by
    have hj' : j < t0 := by rw [htl] at hj; exact hj
    simp [hj']) (by omega) (by rw [htl]; exact hB) h
  have := wpV_sound HS hSB _ _ _ _ w.drew (fun _ _ _ _ => trivial) hS trivial H
  rw [htl, show t0 + (l.toArray.size - t0) = l.toArray.size by omega] at this
  exact this

/-- THE REGION, anywhere -/
theorem wp_region_univ {id : Nat} {a : Act} {w : World} {l : List Oper} (t0 : Nat) (S : World → Prop) (B : Nat) (Z : TypeId → Array Value) (hm : P.follows .mixedOrders = true) (hB : uniVB l.toArray t0 = true) (HS : Stable S) (hSB : ∀ w, S w → B ≤ w.heap.size) (hS : S w.drew)
    (h : wpHV P .any l.toArray Q S t0 B Z (wpList P l.toArray Q (l.drop t0)) (l.take t0) a (fun _ => True)) : (Code.region id l.toArray true).wp P Q a w :=
  wp_region_any hm (univ_any t0 S B Z hB HS hSB hS h)
/-- THE REGION, in a round -/
theorem round_region_univ {l0 n : Nat} {id : Nat} {a : Act} {w : World} {l : List Oper} (t0 : Nat) (S : World → Prop) (B : Nat) (Z : TypeId → Array Value) (hLQ : ¬ LetsOut Q) (hnd : noDefer l.toArray = true) (hm : P.follows .mixedOrders = true) (hB : uniVB l.toArray t0 = true) (HS : Stable S) (hSB : ∀ w, S w → B ≤ w.heap.size) (hS : S w.drew)
    (h : wpHV P .any l.toArray Q S t0 B Z (wpList P l.toArray Q (l.drop t0)) (l.take t0) a (fun _ => True)) : (Code.region id l.toArray true).wpIn (Fence.wide.inRound l0) n P Q a w :=
  wpIn_region_any hm (wpAny_round hnd hLQ _ _ _ _ (univ_any t0 S B Z hB HS hSB hS h))
end
end Go.Proofs.Ytpeamkplhfddbaa
