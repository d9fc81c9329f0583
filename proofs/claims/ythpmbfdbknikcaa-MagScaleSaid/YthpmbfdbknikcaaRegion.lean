/- A region that draws its order: reads, what is pure, and calls that keep what the reads need, in the order of the text; behind them stores, one by one. Anywhere, and in a round of a range over a function. -/
import Derived.Test.YthpmbfdbknikcaaRound
set_option linter.unusedVariables false
set_option linter.unusedSimpArgs false
namespace Go.Proofs.Ythpmbfdbknikcaa
open Go

section
variable {P : Program} {ops : Array Oper} {Q : Exit → Act → World → Prop} {md : Region.Mode} {S : World → Prop} {t0 : Nat}

/-- whatever order is picked, AND S HOLDS BEHIND EVERY OPERATION UNTIL NUMBER t0 HAS COME UP -/
def wpAnyT (P : Program) (md : Region.Mode) (ops : Array Oper) (Q : Exit → Act → World → Prop) (S : World → Prop) (t0 : Nat) : Nat → Array Bool → Act → World → Prop
  | 0, listed, a, w => Region.ready md ops listed = [] ∧ Q .normal a w
  | fuel + 1, listed, a, w =>
    (Region.ready md ops listed = [] → Q .normal a w) ∧
    ∀ i ∈ Region.ready md ops listed, wpOp P ops Q i (fun a' w' => ((listed.setIfInBounds i true).getD t0 false = false → S w') ∧ wpAnyT P md ops Q S t0 fuel (listed.setIfInBounds i true) a' w') a w

theorem wpAny_of_T : ∀ (fuel : Nat) (listed : Array Bool) (a : Act) (w : World), wpAnyT P md ops Q S t0 fuel listed a w → wpAny P md ops Q fuel listed a w
  | 0, _, _, _, h => h
  | fuel + 1, _, _, _, h => ⟨h.1, fun i hi => wpOp_mono (fun a' w' h' => wpAny_of_T fuel _ a' w' h'.2) (h.2 i hi)⟩

theorem free_later {i j : Nat} {oi : Oper} {listed : Array Bool} (hjun : listed.getD j true = false)
    (hfree : ∀ k ok, ops[k]? = some ok → k ≠ i → listed.getD k true = false → (∀ e ∈ ok.after, Region.binds md e = true → e.on ≠ i) → oi.apart ops ok = true) :
    ∀ k ok, ops[k]? = some ok → k ≠ i → (listed.setIfInBounds j true).getD k true = false → (∀ e ∈ ok.after, Region.binds md e = true → e.on ≠ i) → oi.apart ops ok = true := fun k ok hk hki hun hno => by
  refine hfree k ok hk hki ?_ hno
  by_cases hjk : j = k
  · subst hjk; exact hjun
  · rw [getD_set_ne true hjk] at hun; exact hun

theorem not_waits {i j : Nat} {listed : Array Bool} (hiun : listed.getD i true = false) {oj : Oper} (hall : ∀ e ∈ oj.after, Region.binds md e = true → listed.getD e.on false = true) :
    ∀ e ∈ oj.after, Region.binds md e = true → e.on ≠ i := fun e he hb heq => by
  have h1 := hall e he hb
  rw [heq, getD_both hiun] at h1
  cases h1

/-- a pure operation, taken first -/
theorem wpAnyT_first_pure {i : Nat} {oi : Oper} {v : Value} (hi : ops[i]? = some oi) (hsel : ∀ (j : Nat) (o : Oper) cs b, ops[j]? = some o → o.op ≠ .select cs b)
    (hQ : ∀ c a w, Q (.panic c) (a.put oi.dst v) w → Q (.panic c) a w) (hit : i ≠ t0) :
    ∀ (fuel : Nat) (listed : Array Bool) (a : Act) (w : World),
      (∀ j oj, ops[j]? = some oj → j ≠ i → listed.getD j true = false → (∀ e ∈ oj.after, Region.binds md e = true → e.on ≠ i) → oi.apart ops oj = true) →
      i ∈ Region.ready md ops listed → Yields P ops oi v a → (listed.getD t0 false = false → S w) →
      wpAnyT P md ops Q S t0 fuel (listed.setIfInBounds i true) (a.put oi.dst v) w → wpAnyT P md ops Q S t0 (fuel + 1) listed a w := by
  intro fuel
  induction fuel with
  | zero =>
    intro listed a w _ hr hy hS H
    refine ⟨fun h => (by rw [h] at hr; cases hr), fun j hj => ?_⟩
    by_cases hji : j = i
    · subst hji; exact hy.wpOp hi ⟨fun h => hS (by rw [getD_set_ne false hit] at h; exact h), H⟩
    · have := ready_mono hj hji
      rw [H.1] at this
      cases this
  | succ fuel ih =>
    intro listed a w hfree hr hy hS H
    refine ⟨fun h => (by rw [h] at hr; cases hr), fun j hj => ?_⟩
    by_cases hji : j = i
    · subst hji; exact hy.wpOp hi ⟨fun h => hS (by rw [getD_set_ne false hit] at h; exact h), H⟩
    · have h1 := H.2 j (ready_mono hj hji)
      obtain ⟨hjun, oj, hoj, hall⟩ := mem_ready.1 hj
      have h2 := wpOp_put hoj (hfree j oj hoj hji hjun (not_waits (j := j) (mem_ready.1 hr).1 hall)) (fun cs b => hsel i oi cs b hi) (fun cs b => hsel j oj cs b hoj) hQ hy h1
      refine wpOp_mono (fun a' w' h3 => ?_) h2
      have hS' : (listed.setIfInBounds j true).getD t0 false = false → S w' := fun h => h3.2.1 (by rw [Array.setIfInBounds_comm _ _ (Ne.symm hji), getD_set_ne false hit]; exact h)
      refine ⟨hS', ih (listed.setIfInBounds j true) a' w' (free_later hjun hfree) (ready_mono hr (Ne.symm hji)) h3.1 hS' ?_⟩
      rw [Array.setIfInBounds_comm _ _ hji]
      exact h3.2.2

/-- a read for which number t0 waits, taken first -/
theorem wpAnyT_first_read {i : Nat} {oi : Oper} {v : Value} (hi : ops[i]? = some oi) (hsel : ∀ (j : Nat) (o : Oper) cs b, ops[j]? = some o → o.op ≠ .select cs b)
    (hQ : ∀ c a w, Q (.panic c) (a.put oi.dst v) w → Q (.panic c) a w) (hit : i ≠ t0) (hw : t0 = ops.size ∨ Region.waitsFor md ops t0 i = true) :
    ∀ (fuel : Nat) (listed : Array Bool) (a : Act) (w : World), listed.getD t0 false = false →
      (∀ j oj, ops[j]? = some oj → j ≠ i → listed.getD j true = false → (∀ e ∈ oj.after, Region.binds md e = true → e.on ≠ i) → oi.apart ops oj = true) →
      i ∈ Region.ready md ops listed → YieldsIf P ops S oi v a → S w →
      wpAnyT P md ops Q S t0 fuel (listed.setIfInBounds i true) (a.put oi.dst v) w → wpAnyT P md ops Q S t0 (fuel + 1) listed a w := by
  intro fuel
  induction fuel with
  | zero =>
    intro listed a w _ _ hr hy hS H
    refine ⟨fun h => (by rw [h] at hr; cases hr), fun j hj => ?_⟩
    by_cases hji : j = i
    · subst hji; exact hy.wpOp hi hS ⟨fun _ => hS, H⟩
    · have := ready_mono hj hji
      rw [H.1] at this
      cases this
  | succ fuel ih =>
    intro listed a w ht hfree hr hy hS H
    refine ⟨fun h => (by rw [h] at hr; cases hr), fun j hj => ?_⟩
    by_cases hji : j = i
    · subst hji; exact hy.wpOp hi hS ⟨fun _ => hS, H⟩
    · have h1 := H.2 j (ready_mono hj hji)
      obtain ⟨hjun, oj, hoj, hall⟩ := mem_ready.1 hj
      have hnot := not_waits (md := md) (j := j) (mem_ready.1 hr).1 hall
      have hjt : j ≠ t0 := by
        rintro rfl
        rcases hw with hw | hw
        · have := (Array.getElem?_eq_some_iff.1 hoj).1; omega
        · obtain ⟨o', ho', e, he, hb, hon⟩ := Region.waitsFor_spec hw
          have : o' = oj := Option.some.inj (ho'.symm.trans hoj)
          subst this
          exact hnot e he hb hon
      have h2 := wpOp_putIf hoj (hfree j oj hoj hji hjun hnot) (fun cs b => hsel i oi cs b hi) (fun cs b => hsel j oj cs b hoj) hQ hy h1
      refine wpOp_mono (fun a' w' h3 => ?_) h2
      have ht' : (listed.setIfInBounds j true).getD t0 false = false := by rw [getD_set_ne false hjt]; exact ht
      have hS' : S w' := h3.2.1 (by rw [Array.setIfInBounds_comm _ _ (Ne.symm hji), getD_set_ne false hit]; exact ht')
      refine ⟨fun _ => hS', ih (listed.setIfInBounds j true) a' w' ht' (free_later hjun hfree) (ready_mono hr (Ne.symm hji)) h3.1 hS' ?_⟩
      rw [Array.setIfInBounds_comm _ _ hji]
      exact h3.2.2

theorem wpAnyT_of_any : ∀ (fuel : Nat) (listed : Array Bool) (a : Act) (w : World), listed.getD t0 false = true → wpAny P md ops Q fuel listed a w → wpAnyT P md ops Q S t0 fuel listed a w
  | 0, _, _, _, _, h => h
  | fuel + 1, listed, a, w, ht, h => ⟨h.1, fun i hi => wpOp_mono (fun a' w' h' => ⟨fun h0 => (by rw [getD_set_true ht] at h0; cases h0), wpAnyT_of_any fuel _ a' w' (getD_set_true ht) h'⟩) (h.2 i hi)⟩

theorem wpAnyT_tail (l : List Oper) (listed : Array Bool) (a : Act) (w : World) (hsz : listed.size = ops.size) (hl : ∀ j, l[j]? = ops[t0 + j]?)
    (hB : Region.seqB md ops l.length t0 listed = true) (h : wpList P ops Q l a w) : wpAnyT P md ops Q S t0 l.length listed a w := by
  have H := wpAny_of_seq l t0 listed a w hl hB h
  cases l with
  | nil => exact H
  | cons o l =>
    simp only [List.length_cons, Region.seqB, Bool.and_eq_true, decide_eq_true_eq] at hB
    have ho : ops[t0]? = some o := by simpa using (hl 0).symm
    have hlt : t0 < listed.size := by rw [hsz]; exact (Array.getElem?_eq_some_iff.1 ho).1
    refine ⟨H.1, fun i hi => ?_⟩
    have hi' := hi
    rw [hB.1] at hi'
    have hit : i = t0 := by simpa using hi'
    subst hit
    have ht : (listed.setIfInBounds i true).getD i false = true := by simp [hlt]
    exact wpOp_mono (fun a' w' h' => ⟨fun h0 => (by rw [ht] at h0; cases h0), wpAnyT_of_any _ _ a' w' ht h'⟩) (H.2 i hi)

/-- may this read be taken first? -/
def readB (md : Region.Mode) (ops : Array Oper) (t0 k : Nat) : Bool := (t0 == ops.size) || Region.waitsFor md ops t0 k
theorem readB_spec {k : Nat} (h : readB md ops t0 k = true) : t0 = ops.size ∨ Region.waitsFor md ops t0 k = true := by
  unfold readB at h; simpa using h

/-- the walk, in the order of the text -/
def wpHead (P : Program) (md : Region.Mode) (ops : Array Oper) (Q : Exit → Act → World → Prop) (S : World → Prop) (t0 : Nat) (L : Act → World → Prop) : List Oper → Nat → Array Bool → Act → World → Prop
  | [], _, _, a, w => L a w
  | o :: rest, k, listed, a, w =>
    (∃ v, ((readB md ops t0 k = true ∧ YieldsIf P ops S o v a) ∨ Yields P ops o v a) ∧ (∀ c a w, Q (.panic c) (a.put o.dst v) w → Q (.panic c) a w) ∧ wpHead P md ops Q S t0 L rest (k + 1) (listed.setIfInBounds k true) (a.put o.dst v) w) ∨
    (Region.ready md ops listed = [k] ∧ wpOp P ops Q k (fun a' w' => S w' ∧ wpHead P md ops Q S t0 L rest (k + 1) (listed.setIfInBounds k true) a' w') a w)

/-- a read; what is pure; a call -/
theorem head_read {L : Act → World → Prop} {o : Oper} {rest : List Oper} {k : Nat} {listed : Array Bool} {a : Act} {w : World} (v : Value) (hb : readB md ops t0 k = true) (hQ : ∀ c a w, Q (.panic c) (a.put o.dst v) w → Q (.panic c) a w)
    (hy : YieldsIf P ops S o v a) (h : wpHead P md ops Q S t0 L rest (k + 1) (listed.setIfInBounds k true) (a.put o.dst v) w) : wpHead P md ops Q S t0 L (o :: rest) k listed a w := .inl ⟨v, .inl ⟨hb, hy⟩, hQ, h⟩
theorem head_pure {L : Act → World → Prop} {o : Oper} {rest : List Oper} {k : Nat} {listed : Array Bool} {a : Act} {w : World} (v : Value) (hQ : ∀ c a w, Q (.panic c) (a.put o.dst v) w → Q (.panic c) a w)
    (hy : Yields P ops o v a) (h : wpHead P md ops Q S t0 L rest (k + 1) (listed.setIfInBounds k true) (a.put o.dst v) w) : wpHead P md ops Q S t0 L (o :: rest) k listed a w := .inl ⟨v, .inr hy, hQ, h⟩
theorem head_call {L : Act → World → Prop} {o : Oper} {rest : List Oper} {k : Nat} {listed : Array Bool} {a : Act} {w : World} (hr : Region.ready md ops listed = [k])
    (h : wpOp P ops Q k (fun a' w' => S w' ∧ wpHead P md ops Q S t0 L rest (k + 1) (listed.setIfInBounds k true) a' w') a w) : wpHead P md ops Q S t0 L (o :: rest) k listed a w := .inr ⟨hr, h⟩

/-- may the head be walked so? (fuel: how many operations it has left) -/
def headB (md : Region.Mode) (ops : Array Oper) (t0 : Nat) : Nat → Nat → Array Bool → Bool
  | 0, _, listed => Region.seqB md ops (ops.size - t0) t0 listed
  | f + 1, k, listed => (Region.ready md ops listed).contains k && Region.free md ops listed k && headB md ops t0 f (k + 1) (listed.setIfInBounds k true)

theorem head_sound (hsel : Region.noSelect ops = true) (ht0 : t0 ≤ ops.size) : ∀ (l : List Oper) (k : Nat) (listed : Array Bool) (a : Act) (w : World), listed.size = ops.size → (∀ j, j < l.length → l[j]? = ops[k + j]?) → k + l.length = t0 →
    listed.getD t0 false = false → headB md ops t0 l.length k listed = true → S w →
    wpHead P md ops Q S t0 (wpList P ops Q (ops.toList.drop t0)) l k listed a w → wpAnyT P md ops Q S t0 (l.length + (ops.size - t0)) listed a w
  | [], k, listed, a, w, hsz, _, _, _, hB, _, h => by
    have hd : (ops.toList.drop t0).length = ops.size - t0 := by simp
    have := wpAnyT_tail (S := S) (md := md) (t0 := t0) (ops.toList.drop t0) listed a w hsz (fun j => by simp [List.getElem?_drop]) (by rw [hd]; exact hB) h
    rw [hd] at this
    simpa using this
  | o :: l, k, listed, a, w, hsz, hl, hk, ht, hB, hS, h => by
    have h0 : ops[k]? = some o := by simpa using (hl 0 (by simp)).symm
    simp only [List.length_cons, headB, Bool.and_eq_true] at hB
    obtain ⟨⟨hr, hf⟩, hB'⟩ := hB
    simp only [List.length_cons] at hk
    have hkt : k ≠ t0 := by omega
    have hr' : k ∈ Region.ready md ops listed := by simpa using hr
    have hl' : ∀ j, j < l.length → l[j]? = ops[k + 1 + j]? := fun j hj => by have := hl (j + 1) (by simp; omega); simpa [Nat.add_assoc, Nat.add_comm 1 j] using this
    have ht' : (listed.setIfInBounds k true).getD t0 false = false := by rw [getD_set_ne false hkt]; exact ht
    rw [List.length_cons, Nat.add_right_comm]
    rcases h with ⟨v, hy, hQ, h⟩ | ⟨hone, h⟩
    · have H := head_sound hsel ht0 l (k + 1) _ _ w (by simp [hsz]) hl' (by omega) ht' hB' hS h
      rcases hy with ⟨hb, hy⟩ | hy
      · exact wpAnyT_first_read h0 (Region.noSelect_spec hsel) hQ hkt (readB_spec hb) _ listed a w ht (Region.free_spec h0 hf) hr' hy hS H
      · exact wpAnyT_first_pure h0 (Region.noSelect_spec hsel) hQ hkt _ listed a w (Region.free_spec h0 hf) hr' hy (fun _ => hS) H
    · refine ⟨fun h1 => (by rw [h1] at hr'; cases hr'), fun i hi => ?_⟩
      rw [hone] at hi
      have hik : i = k := by simpa using hi
      subst hik
      exact wpOp_mono (fun a' w' h' => ⟨fun _ => h'.1, head_sound hsel ht0 l (i + 1) _ a' w' (by simp [hsz]) hl' (by omega) ht' hB' h'.1 h'.2⟩) h

def regionB (ops : Array Oper) (t0 : Nat) : Bool := Region.noSelect ops && decide (t0 ≤ ops.size) && headB .any ops t0 t0 0 (Array.replicate ops.size false)

theorem region_any {a : Act} {w : World} {l : List Oper} (t0 : Nat) (S : World → Prop) (hB : regionB l.toArray t0 = true) (hS : S w.drew)
    (h : wpHead P .any l.toArray Q S t0 (wpList P l.toArray Q (l.drop t0)) (l.take t0) 0 (Array.replicate l.length false) a w.drew) : wpAny P .any l.toArray Q l.toArray.size (Array.replicate l.toArray.size false) a w.drew := by
  simp only [regionB, Bool.and_eq_true, decide_eq_true_eq] at hB
  obtain ⟨⟨hsel, ht0⟩, hB⟩ := hB
  have htl : (l.take t0).length = t0 := by simp at ht0 ⊢; omega
  have H := head_sound (P := P) (Q := Q) (S := S) (md := .any) (t0 := t0) hsel ht0 (l.take t0) 0 (Array.replicate l.toArray.size false) a w.drew (by simp) (fun j hj => by
    have hj' : j < t0 := by rw [htl] at hj; exact hj
    simp [hj']) (by omega) (getD_replicate_false _ _) (by rw [htl]; exact hB) hS (by simpa using h)
  rw [htl, show t0 + (l.toArray.size - t0) = l.toArray.size by omega] at H
  exact wpAny_of_T _ _ _ _ H

/-- THE REGION, anywhere -/
theorem wp_region_head {id : Nat} {a : Act} {w : World} {l : List Oper} (t0 : Nat) (S : World → Prop) (hm : P.follows .mixedOrders = true) (hB : regionB l.toArray t0 = true) (hS : S w.drew)
    (h : wpHead P .any l.toArray Q S t0 (wpList P l.toArray Q (l.drop t0)) (l.take t0) 0 (Array.replicate l.length false) a w.drew) : (Code.region id l.toArray true).wp P Q a w :=
  wp_region_any hm (region_any t0 S hB hS h)

/-- THE REGION, in a round -/
theorem round_region_head {l0 n : Nat} {id : Nat} {a : Act} {w : World} {l : List Oper} (t0 : Nat) (S : World → Prop) (hLQ : ¬ LetsOut Q) (hnd : noDefer l.toArray = true) (hm : P.follows .mixedOrders = true) (hB : regionB l.toArray t0 = true) (hS : S w.drew)
    (h : wpHead P .any l.toArray Q S t0 (wpList P l.toArray Q (l.drop t0)) (l.take t0) 0 (Array.replicate l.length false) a w.drew) : (Code.region id l.toArray true).wpIn (Fence.wide.inRound l0) n P Q a w :=
  wpIn_region_any hm (wpAny_round hnd hLQ _ _ _ _ (region_any t0 S hB hS h))
end
end Go.Proofs.Ythpmbfdbknikcaa
