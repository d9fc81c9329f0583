/- Tools: regions that draw their order; memory that is kept; numbers in parts. -/
import Derived.RangeFuncCalls
import Derived.StillTailTactics
import Derived.OrdersIn
import Derived.OrdersHeld
import Derived.Test.YtpfoifflfgiaoaaGreatDoorRows
import Derived.WalkKit
import Derived.Below
import Derived.Laws.Alloc2
import Derived.Lib.Hide
import Derived.WalkSpells
import Derived.WalkLawsBesides
import Derived.OwnWalk
import Derived.Maps.AppendAt
import Derived.Laws.OwnMore
set_option linter.unusedVariables false
set_option linter.unusedSimpArgs false
namespace Go.Proofs.YtpfoifflfgiaoaaGreatDoor
open Go

theorem rowsIn_of {n : Nat} {P : Program} {row : String} {args : Array Value} {w : World} {R : Value → World → Prop} (h : Rows P row args w R) : RowsIn Fence.wide n P row args w R :=
  fun c cs _ => let ⟨v, w', r, s⟩ := h c cs; ⟨v, w', r, stepsIn_wide.2 s⟩

theorem oper_round {l n : Nat} {P : Program} {o : Oper} {a : Act} {w : World} {K : Act → World → Prop} {Q : Exit → Act → World → Prop} (hd : ∀ c, o.op ≠ .defer c) (h : o.wp P a w K Q) : o.wpIn (Fence.wide.inRound l) n P a w K Q := by
  refine ⟨fun _ _ => trivial, ?_⟩
  unfold Oper.wp at h
  rw [Oper.semAt_eq _ _ _ hd]
  generalize (execOp a.eval o).run P w = r at *
  cases r with
  | ok x w' =>
    cases x <;> simp only [Oper.upon, Oper.uponIn] at h ⊢
    all_goals first
      | exact h
      | exact ⟨fun h' => (by cases h'), CallsIn.inRound l (callsIn_wide.2 h)⟩
      | exact ⟨fun h' => (by cases h'), rowsIn_of h⟩
  | halt x w' => cases x <;> simp only [Oper.upon, Oper.uponIn] at h ⊢ <;> exact h

def noDefer (ops : Array Oper) : Bool := ops.toList.all fun o => match o.op with | .defer _ => false | _ => true
theorem noDefer_spec {ops : Array Oper} (h : noDefer ops = true) {i : Nat} {o : Oper} (hi : ops[i]? = some o) : ∀ c, o.op ≠ .defer c := by
  intro c hc
  have := List.all_eq_true.1 h o (by
    rw [← Array.getElem?_toList] at hi
    exact List.mem_of_getElem? hi)
  rw [hc] at this
  cases this

theorem wpOp_round {l n : Nat} {P : Program} {ops : Array Oper} {Q : Exit → Act → World → Prop} (hnd : noDefer ops = true) (hQ : ¬ LetsOut Q) {i : Nat} {K : Act → World → Prop} {a : Act} {w : World}
    (h : wpOp P ops Q i K a w) : wpOpIn (Fence.wide.inRound l) n P ops Q i K a w := by
  unfold wpOp at h
  unfold wpOpIn
  split
  · simpa [*] using h
  · rename_i o ho
    simp only [ho] at h
    split
    · rename_i hw
      simp only [hw, if_true] at h
      rcases h with h | h
      · exact oper_round (noDefer_spec hnd ho) h
      · exact absurd h.2 hQ
    · rename_i hw
      simp only [hw] at h
      exact ⟨fun _ _ => trivial, h⟩

theorem wpAny_round {l n : Nat} {P : Program} {md : Region.Mode} {ops : Array Oper} {Q : Exit → Act → World → Prop} (hnd : noDefer ops = true) (hQ : ¬ LetsOut Q) : ∀ (fuel : Nat) (listed : Array Bool) (a : Act) (w : World),
    wpAny P md ops Q fuel listed a w → wpAnyIn (Fence.wide.inRound l) n P md ops Q fuel listed a w
  | 0, _, _, _, h => h
  | fuel + 1, _, _, _, h => ⟨h.1, fun i hi => wpOpIn_mono (fun _ _ h' => wpAny_round hnd hQ fuel _ _ _ h') (wpOp_round hnd hQ (h.2 i hi))⟩

end Go.Proofs.YtpfoifflfgiaoaaGreatDoor
namespace Go.Proofs.YtpfoifflfgiaoaaGreatDoor
open Go

section
variable {P : Program} {ops : Array Oper} {Q : Exit → Act → World → Prop} {md : Region.Mode} {S : World → Prop} {t0 : Nat}

/-- whatever order is picked, AND S HOLDS BEHIND EVERY OPERATION UNTIL NUMBER t0 HAS COME UP -/
def wpAnyT (P : Program) (md : Region.Mode) (ops : Array Oper) (Q : Exit → Act → World → Prop) (S : World → Prop) (t0 : Nat) : Nat → Array Bool → Act → World → Prop
  | 0, listed, a, w => Region.ready md ops listed = [] ∧ Q .normal a w
  | fuel + 1, listed, a, w =>
    (Region.ready md ops listed = [] → Q .normal a w) ∧
    ∀ i ∈ Region.ready md ops listed, wpOp P ops Q i (fun a' w' => ((listed.setIfInBounds i true).getD t0 false = false → S w') ∧ wpAnyT P md ops Q S t0 fuel (listed.setIfInBounds i true) a' w') a w

theorem wpAny_of_T : ∀ (fuel : Nat) (listed : Array Bool) (a : Act) (w : World), wpAnyT P md ops Q S t0 fuel listed a w → wpAny P md ops Q fuel listed a w
  | 0, _, _, _, h => h
  | fuel + 1, _, _, _, h => ⟨h.1, fun i hi => wpOp_mono (fun a' w' h' => wpAny_of_T fuel _ a' w' h'.2) (h.2 i hi)⟩

theorem free_later {i j : Nat} {oi : Oper} {listed : Array Bool} (hjun : listed.getD j true = false)
    (hfree : ∀ k ok, ops[k]? = some ok → k ≠ i → listed.getD k true = false → (∀ e ∈ ok.after, Region.binds md e = true → e.on ≠ i) → oi.apart ops ok = true) :
    ∀ k ok, ops[k]? = some ok → k ≠ i → (listed.setIfInBounds j true).getD k true = false → (∀ e ∈ ok.after, Region.binds md e = true → e.on ≠ i) → oi.apart ops ok = true := fun k ok hk hki hun hno => by
  refine hfree k ok hk hki ?_ hno
  by_cases hjk : j = k
  · subst hjk; exact hjun
  · rw [getD_set_ne true hjk] at hun; exact hun

theorem not_waits {i j : Nat} {listed : Array Bool} (hiun : listed.getD i true = false) {oj : Oper} (hall : ∀ e ∈ oj.after, Region.binds md e = true → listed.getD e.on false = true) :
    ∀ e ∈ oj.after, Region.binds md e = true → e.on ≠ i := fun e he hb heq => by
  have h1 := hall e he hb
  rw [heq, getD_both hiun] at h1
  cases h1

/-- a pure operation, taken first -/
theorem wpAnyT_first_pure {i : Nat} {oi : Oper} {v : Value} (hi : ops[i]? = some oi) (hsel : ∀ (j : Nat) (o : Oper) cs b, ops[j]? = some o → o.op ≠ .select cs b)
    (hQ : ∀ c a w, Q (.panic c) (a.put oi.dst v) w → Q (.panic c) a w) (hit : i ≠ t0) :
    ∀ (fuel : Nat) (listed : Array Bool) (a : Act) (w : World),
      (∀ j oj, ops[j]? = some oj → j ≠ i → listed.getD j true = false → (∀ e ∈ oj.after, Region.binds md e = true → e.on ≠ i) → oi.apart ops oj = true) →
      i ∈ Region.ready md ops listed → Yields P ops oi v a → (listed.getD t0 false = false → S w) →
      wpAnyT P md ops Q S t0 fuel (listed.setIfInBounds i true) (a.put oi.dst v) w → wpAnyT P md ops Q S t0 (fuel + 1) listed a w := by
  intro fuel
  induction fuel with
  | zero =>
    intro listed a w _ hr hy hS H
    refine ⟨fun h => (by rw [h] at hr; cases hr), fun j hj => ?_⟩
    by_cases hji : j = i
    · subst hji; exact hy.wpOp hi ⟨fun h => hS (by rw [getD_set_ne false hit] at h; exact h), H⟩
    · have := ready_mono hj hji
      rw [H.1] at this
      cases this
  | succ fuel ih =>
    intro listed a w hfree hr hy hS H
    refine ⟨fun h => (by rw [h] at hr; cases hr), fun j hj => ?_⟩
    by_cases hji : j = i
    · subst hji; exact hy.wpOp hi ⟨fun h => hS (by rw [getD_set_ne false hit] at h; exact h), H⟩
    · have h1 := H.2 j (ready_mono hj hji)
      obtain ⟨hjun, oj, hoj, hall⟩ := mem_ready.1 hj
      have h2 := wpOp_put hoj (hfree j oj hoj hji hjun (not_waits (j := j) (mem_ready.1 hr).1 hall)) (fun cs b => hsel i oi cs b hi) (fun cs b => hsel j oj cs b hoj) hQ hy h1
      refine wpOp_mono (fun a' w' h3 => ?_) h2
      have hS' : (listed.setIfInBounds j true).getD t0 false = false → S w' := fun h => h3.2.1 (by rw [Array.setIfInBounds_comm _ _ (Ne.symm hji), getD_set_ne false hit]; exact h)
      refine ⟨hS', ih (listed.setIfInBounds j true) a' w' (free_later hjun hfree) (ready_mono hr (Ne.symm hji)) h3.1 hS' ?_⟩
      rw [Array.setIfInBounds_comm _ _ hji]
      exact h3.2.2

/-- a read for which number t0 waits, taken first -/
theorem wpAnyT_first_read {i : Nat} {oi : Oper} {v : Value} (hi : ops[i]? = some oi) (hsel : ∀ (j : Nat) (o : Oper) cs b, ops[j]? = some o → o.op ≠ .select cs b)
    (hQ : ∀ c a w, Q (.panic c) (a.put oi.dst v) w → Q (.panic c) a w) (hit : i ≠ t0) (hw : t0 = ops.size ∨ Region.waitsFor md ops t0 i = true) :
    ∀ (fuel : Nat) (listed : Array Bool) (a : Act) (w : World), listed.getD t0 false = false →
      (∀ j oj, ops[j]? = some oj → j ≠ i → listed.getD j true = false → (∀ e ∈ oj.after, Region.binds md e = true → e.on ≠ i) → oi.apart ops oj = true) →
      i ∈ Region.ready md ops listed → YieldsIf P ops S oi v a → S w →
      wpAnyT P md ops Q S t0 fuel (listed.setIfInBounds i true) (a.put oi.dst v) w → wpAnyT P md ops Q S t0 (fuel + 1) listed a w := by
  intro fuel
  induction fuel with
  | zero =>
    intro listed a w _ _ hr hy hS H
    refine ⟨fun h => (by rw [h] at hr; cases hr), fun j hj => ?_⟩
    by_cases hji : j = i
    · subst hji; exact hy.wpOp hi hS ⟨fun _ => hS, H⟩
    · have := ready_mono hj hji
      rw [H.1] at this
      cases this
  | succ fuel ih =>
    intro listed a w ht hfree hr hy hS H
    refine ⟨fun h => (by rw [h] at hr; cases hr), fun j hj => ?_⟩
    by_cases hji : j = i
    · subst hji; exact hy.wpOp hi hS ⟨fun _ => hS, H⟩
    · have h1 := H.2 j (ready_mono hj hji)
      obtain ⟨hjun, oj, hoj, hall⟩ := mem_ready.1 hj
      have hnot := not_waits (md := md) (j := j) (mem_ready.1 hr).1 hall
      have hjt : j ≠ t0 := by
        rintro rfl
        rcases hw with hw | hw
        · have := (Array.getElem?_eq_some_iff.1 hoj).1; omega
        · obtain ⟨o', ho', e, he, hb, hon⟩ := Region.waitsFor_spec hw
          have : o' = oj := Option.some.inj (ho'.symm.trans hoj)
          subst this
          exact hnot e he hb hon
      have h2 := wpOp_putIf hoj (hfree j oj hoj hji hjun hnot) (fun cs b => hsel i oi cs b hi) (fun cs b => hsel j oj cs b hoj) hQ hy h1
      refine wpOp_mono (fun a' w' h3 => ?_) h2
      have ht' : (listed.setIfInBounds j true).getD t0 false = false := by rw [getD_set_ne false hjt]; exact ht
      have hS' : S w' := h3.2.1 (by rw [Array.setIfInBounds_comm _ _ (Ne.symm hji), getD_set_ne false hit]; exact ht')
      refine ⟨fun _ => hS', ih (listed.setIfInBounds j true) a' w' ht' (free_later hjun hfree) (ready_mono hr (Ne.symm hji)) h3.1 hS' ?_⟩
      rw [Array.setIfInBounds_comm _ _ hji]
      exact h3.2.2

theorem wpAnyT_of_any : ∀ (fuel : Nat) (listed : Array Bool) (a : Act) (w : World), listed.getD t0 false = true → wpAny P md ops Q fuel listed a w → wpAnyT P md ops Q S t0 fuel listed a w
  | 0, _, _, _, _, h => h
  | fuel + 1, listed, a, w, ht, h => ⟨h.1, fun i hi => wpOp_mono (fun a' w' h' => ⟨fun h0 => (by rw [getD_set_true ht] at h0; cases h0), wpAnyT_of_any fuel _ a' w' (getD_set_true ht) h'⟩) (h.2 i hi)⟩

theorem wpAnyT_tail (l : List Oper) (listed : Array Bool) (a : Act) (w : World) (hsz : listed.size = ops.size) (hl : ∀ j, l[j]? = ops[t0 + j]?)
    (hB : Region.seqB md ops l.length t0 listed = true) (h : wpList P ops Q l a w) : wpAnyT P md ops Q S t0 l.length listed a w := by
  have H := wpAny_of_seq l t0 listed a w hl hB h
  cases l with
  | nil => exact H
  | cons o l =>
    simp only [List.length_cons, Region.seqB, Bool.and_eq_true, decide_eq_true_eq] at hB
    have ho : ops[t0]? = some o := by simpa using (hl 0).symm
    have hlt : t0 < listed.size := by rw [hsz]; exact (Array.getElem?_eq_some_iff.1 ho).1
    refine ⟨H.1, fun i hi => ?_⟩
    have hi' := hi
    rw [hB.1] at hi'
    have hit : i = t0 := by simpa using hi'
    subst hit
    have ht : (listed.setIfInBounds i true).getD i false = true := by simp [hlt]
    exact wpOp_mono (fun a' w' h' => ⟨fun h0 => (by rw [ht] at h0; cases h0), wpAnyT_of_any _ _ a' w' ht h'⟩) (H.2 i hi)

/-- may this read be taken first? -/
def readB (md : Region.Mode) (ops : Array Oper) (t0 k : Nat) : Bool := (t0 == ops.size) || Region.waitsFor md ops t0 k
theorem readB_spec {k : Nat} (h : readB md ops t0 k = true) : t0 = ops.size ∨ Region.waitsFor md ops t0 k = true := by
  unfold readB at h; simpa using h

/-- the walk, in the order of the text -/
def wpHead (P : Program) (md : Region.Mode) (ops : Array Oper) (Q : Exit → Act → World → Prop) (S : World → Prop) (t0 : Nat) (L : Act → World → Prop) : List Oper → Nat → Array Bool → Act → World → Prop
  | [], _, _, a, w => L a w
  | o :: rest, k, listed, a, w =>
    (∃ v, ((readB md ops t0 k = true ∧ YieldsIf P ops S o v a) ∨ Yields P ops o v a) ∧ (∀ c a w, Q (.panic c) (a.put o.dst v) w → Q (.panic c) a w) ∧ wpHead P md ops Q S t0 L rest (k + 1) (listed.setIfInBounds k true) (a.put o.dst v) w) ∨
    (Region.ready md ops listed = [k] ∧ wpOp P ops Q k (fun a' w' => S w' ∧ wpHead P md ops Q S t0 L rest (k + 1) (listed.setIfInBounds k true) a' w') a w)

/-- a read; what is pure; a call -/
theorem head_read {L : Act → World → Prop} {o : Oper} {rest : List Oper} {k : Nat} {listed : Array Bool} {a : Act} {w : World} (v : Value) (hb : readB md ops t0 k = true) (hQ : ∀ c a w, Q (.panic c) (a.put o.dst v) w → Q (.panic c) a w)
    (hy : YieldsIf P ops S o v a) (h : wpHead P md ops Q S t0 L rest (k + 1) (listed.setIfInBounds k true) (a.put o.dst v) w) : wpHead P md ops Q S t0 L (o :: rest) k listed a w := .inl ⟨v, .inl ⟨hb, hy⟩, hQ, h⟩
theorem head_pure {L : Act → World → Prop} {o : Oper} {rest : List Oper} {k : Nat} {listed : Array Bool} {a : Act} {w : World} (v : Value) (hQ : ∀ c a w, Q (.panic c) (a.put o.dst v) w → Q (.panic c) a w)
    (hy : Yields P ops o v a) (h : wpHead P md ops Q S t0 L rest (k + 1) (listed.setIfInBounds k true) (a.put o.dst v) w) : wpHead P md ops Q S t0 L (o :: rest) k listed a w := .inl ⟨v, .inr hy, hQ, h⟩
/-- may the head be walked so? (fuel: how many operations it has left) -/
def headB (md : Region.Mode) (ops : Array Oper) (t0 : Nat) : Nat → Nat → Array Bool → Bool
  | 0, _, listed => Region.seqB md ops (ops.size - t0) t0 listed
  | f + 1, k, listed => (Region.ready md ops listed).contains k && Region.free md ops listed k && headB md ops t0 f (k + 1) (listed.setIfInBounds k true)

theorem head_sound (hsel : Region.noSelect ops = true) (ht0 : t0 ≤ ops.size) : ∀ (l : List Oper) (k : Nat) (listed : Array Bool) (a : Act) (w : World), listed.size = ops.size → (∀ j, j < l.length → l[j]? = ops[k + j]?) → k + l.length = t0 →
    listed.getD t0 false = false → headB md ops t0 l.length k listed = true → S w →
    wpHead P md ops Q S t0 (wpList P ops Q (ops.toList.drop t0)) l k listed a w → wpAnyT P md ops Q S t0 (l.length + (ops.size - t0)) listed a w
  | [], k, listed, a, w, hsz, _, _, _, hB, _, h => by
    have hd : (ops.toList.drop t0).length = ops.size - t0 := by simp
    have := wpAnyT_tail (S := S) (md := md) (t0 := t0) (ops.toList.drop t0) listed a w hsz (fun j => by simp [List.getElem?_drop]) (by rw [hd]; exact hB) h
    rw [hd] at this
    simpa using this
  | o :: l, k, listed, a, w, hsz, hl, hk, ht, hB, hS, h => by
    have h0 : ops[k]? = some o := by simpa using (hl 0 (by simp)).symm
    simp only [List.length_cons, headB, Bool.and_eq_true] at hB
    obtain ⟨⟨hr, hf⟩, hB'⟩ := hB
    simp only [List.length_cons] at hk
    have hkt : k ≠ t0 := by omega
    have hr' : k ∈ Region.ready md ops listed := by simpa using hr
    have hl' : ∀ j, j < l.length → l[j]? = ops[k + 1 + j]? := fun j hj => by have := hl (j + 1) (by simp; omega); simpa [Nat.add_assoc, Nat.add_comm 1 j] using this
    have ht' : (listed.setIfInBounds k true).getD t0 false = false := by rw [getD_set_ne false hkt]; exact ht
    rw [List.length_cons, Nat.add_right_comm]
    rcases h with ⟨v, hy, hQ, h⟩ | ⟨hone, h⟩
    · have H := head_sound hsel ht0 l (k + 1) _ _ w (by simp [hsz]) hl' (by omega) ht' hB' hS h
      rcases hy with ⟨hb, hy⟩ | hy
      · exact wpAnyT_first_read h0 (Region.noSelect_spec hsel) hQ hkt (readB_spec hb) _ listed a w ht (Region.free_spec h0 hf) hr' hy hS H
      · exact wpAnyT_first_pure h0 (Region.noSelect_spec hsel) hQ hkt _ listed a w (Region.free_spec h0 hf) hr' hy (fun _ => hS) H
    · refine ⟨fun h1 => (by rw [h1] at hr'; cases hr'), fun i hi => ?_⟩
      rw [hone] at hi
      have hik : i = k := by simpa using hi
      subst hik
      exact wpOp_mono (fun a' w' h' => ⟨fun _ => h'.1, head_sound hsel ht0 l (i + 1) _ a' w' (by simp [hsz]) hl' (by omega) ht' hB' h'.1 h'.2⟩) h

def regionB (ops : Array Oper) (t0 : Nat) : Bool := Region.noSelect ops && decide (t0 ≤ ops.size) && headB .any ops t0 t0 0 (Array.replicate ops.size false)

theorem region_any {a : Act} {w : World} {l : List Oper} (t0 : Nat) (S : World → Prop) (hB : regionB l.toArray t0 = true) (hS : S w.drew)
    (h : wpHead P .any l.toArray Q S t0 (wpList P l.toArray Q (l.drop t0)) (l.take t0) 0 (Array.replicate l.length false) a w.drew) : wpAny P .any l.toArray Q l.toArray.size (Array.replicate l.toArray.size false) a w.drew := by
  simp only [regionB, Bool.and_eq_true, decide_eq_true_eq] at hB
  obtain ⟨⟨hsel, ht0⟩, hB⟩ := hB
  have htl : (l.take t0).length = t0 := by simp at ht0 ⊢; omega
  have H := head_sound (P := P) (Q := Q) (S := S) (md := .any) (t0 := t0) hsel ht0 (l.take t0) 0 (Array.replicate l.toArray.size false) a w.drew (by simp) (fun j hj => by
    have hj' : j < t0 := by rw [htl] at hj; exact hj
    simp [hj']) (by omega) (getD_replicate_false _ _) (by rw [htl]; exact hB) hS (by simpa using h)
  rw [htl, show t0 + (l.toArray.size - t0) = l.toArray.size by omega] at H
  exact wpAny_of_T _ _ _ _ H

/-- THE REGION, anywhere -/
theorem wp_region_head {id : Nat} {a : Act} {w : World} {l : List Oper} (t0 : Nat) (S : World → Prop) (hm : P.follows .mixedOrders = true) (hB : regionB l.toArray t0 = true) (hS : S w.drew)
    (h : wpHead P .any l.toArray Q S t0 (wpList P l.toArray Q (l.drop t0)) (l.take t0) 0 (Array.replicate l.length false) a w.drew) : (Code.region id l.toArray true).wp P Q a w :=
  wp_region_any hm (region_any t0 S hB hS h)

/-- THE REGION, in a round -/
theorem round_region_head {l0 n : Nat} {id : Nat} {a : Act} {w : World} {l : List Oper} (t0 : Nat) (S : World → Prop) (hLQ : ¬ LetsOut Q) (hnd : noDefer l.toArray = true) (hm : P.follows .mixedOrders = true) (hB : regionB l.toArray t0 = true) (hS : S w.drew)
    (h : wpHead P .any l.toArray Q S t0 (wpList P l.toArray Q (l.drop t0)) (l.take t0) 0 (Array.replicate l.length false) a w.drew) : (Code.region id l.toArray true).wpIn (Fence.wide.inRound l0) n P Q a w :=
  wpIn_region_any hm (wpAny_round hnd hLQ _ _ _ _ (region_any t0 S hB hS h))
end
end Go.Proofs.YtpfoifflfgiaoaaGreatDoor
namespace Go.Proofs.YtpfoifflfgiaoaaGreatDoor
open Go Go.RowKit

section
variable {P : Program} {ops : Array Oper} {Q : Exit → Act → World → Prop} {md : Region.Mode} {S : World → Prop} {t0 B : Nat} {Z : TypeId → Array Value}

def isAlloc (o : Oper) : Bool := match o.op with | .alloc _ => true | _ => false
def allocTy (o : Oper) : TypeId := match o.op with | .alloc t => t | _ => 0
/-- an operation's run: the value, the world as it was; or a call that answers the value and keeps old memory -/
def Gives (P : Program) (r : Result Next) (v : Value) (w : World) : Prop :=
  r = .ok (.value v) w ∨ ∃ f args, r = .ok (.enter f args) w ∧ Calls P f args w fun e w' => e = .returned v ∧ Below w.heap.size w w'
def YieldsU (P : Program) (ops : Array Oper) (S : World → Prop) (o : Oper) (v : Value) (a : Act) : Prop :=
  (Region.wanted o (yielded ops a.tmps) = true ∧ ∀ w, S w → Gives P ((execOp a.eval o).run P w) v w) ∨ (Region.wanted o (yielded ops a.tmps) = false ∧ v = undef)
def YieldsA (P : Program) (ops : Array Oper) (Z : TypeId → Array Value) (o : Oper) (a : Act) : Prop :=
  Region.wanted o (yielded ops a.tmps) = true ∧ ∀ w, (execOp a.eval o).run P w = .ok (.value (.pointer (some ⟨w.heap.size, 0, none⟩))) (w.alloc (.cells (Z (allocTy o)) (allocTy o)))
/-- block b is a new variable -/
structure Fresh (b : Nat) (zs : Array Value) (w : World) : Prop where
  lt : b < w.heap.size
  cell : ∀ i v, zs[i]? = some v → w.cell? ⟨b, i, none⟩ = some v
  free : ∀ i, w.frozen? ⟨b, i, none⟩ = false
def Stable (E : World → Prop) : Prop := ∀ w w', E w → Below w.heap.size w w' → E w'
theorem Fresh.stable (b : Nat) (zs : Array Value) : Stable (Fresh b zs) := fun _ _ h hb =>
  ⟨Nat.lt_of_lt_of_le h.lt hb.size, fun i v hv => (hb.cell (p := ⟨b, i, none⟩) h.lt).trans (h.cell i v hv), fun i => (hb.frozen (p := ⟨b, i, none⟩) h.lt).trans (h.free i)⟩
theorem Fresh.new (w : World) (zs : Array Value) (t : TypeId) : Fresh w.heap.size zs (w.alloc (.cells zs t)) :=
  ⟨by simp, fun i _ hv => by rw [World.cell?_alloc_new]; exact hv, fun i => World.frozen?_alloc_new w _ _ i⟩

theorem YieldsU.of_same {o : Oper} {v : Value} {a a' : Act} (hy : YieldsU P ops S o v a) (he : execOp a'.eval o = execOp a.eval o) (hw : Region.wanted o (yielded ops a'.tmps) = Region.wanted o (yielded ops a.tmps)) : YieldsU P ops S o v a' := by
  unfold YieldsU at *; rw [he, hw]; exact hy
theorem YieldsA.of_same {o : Oper} {a a' : Act} (hy : YieldsA P ops Z o a) (he : execOp a'.eval o = execOp a.eval o) (hw : Region.wanted o (yielded ops a'.tmps) = Region.wanted o (yielded ops a.tmps)) : YieldsA P ops Z o a' := by
  unfold YieldsA at *; rw [he, hw]; exact hy
theorem YieldsU.wpOp {i : Nat} {o : Oper} {v : Value} {a : Act} (hi : ops[i]? = some o) (hy : YieldsU P ops S o v a) {K : Act → World → Prop} {w : World} (hS : S w)
    (h : ∀ w', Below w.heap.size w w' → K (a.put o.dst v) w') : wpOp P ops Q i K a w := by
  unfold Go.wpOp
  simp only [hi]
  rcases hy with ⟨hw, hv⟩ | ⟨hw, rfl⟩
  · simp only [hw, if_true, Oper.wp]
    rcases hv w hS with e | ⟨f, args, e, hc⟩
    · rw [e]; exact .inl (h w (Below.refl _ _))
    · rw [e]; exact .inl (hc.mono fun e w' ⟨he, hb⟩ => by subst he; exact h w' hb)
  · simp only [hw, Bool.false_eq_true, if_false]; exact h w (Below.refl _ _)
theorem YieldsA.wpOp {i : Nat} {o : Oper} {a : Act} (hi : ops[i]? = some o) (hy : YieldsA P ops Z o a) {K : Act → World → Prop} {w : World}
    (h : K (a.put o.dst (.pointer (some ⟨w.heap.size, 0, none⟩))) (w.alloc (.cells (Z (allocTy o)) (allocTy o)))) : wpOp P ops Q i K a w := by
  unfold Go.wpOp
  simp only [hi, hy.1, if_true, Oper.wp, hy.2 w]
  exact .inl h

def stepU (P : Program) (ops : Array Oper) (S : World → Prop) (B : Nat) (Z : TypeId → Array Value) (i : Nat) (K : Act → (World → Prop) → Prop) (a : Act) (E : World → Prop) : Prop :=
  match ops[i]? with
  | none => False
  | some o => if isAlloc o = true then YieldsA P ops Z o a ∧ ∀ b, B ≤ b → K (a.put o.dst (.pointer (some ⟨b, 0, none⟩))) (fun w => E w ∧ Fresh b (Z (allocTy o)) w)
    else ∃ v, YieldsU P ops S o v a ∧ K (a.put o.dst v) E
def wpU (P : Program) (md : Region.Mode) (ops : Array Oper) (Q : Exit → Act → World → Prop) (S : World → Prop) (t0 B : Nat) (Z : TypeId → Array Value) : Nat → Array Bool → Act → (World → Prop) → Prop
  | 0, listed, a, E => Region.seqB md ops (ops.size - t0) t0 listed = true ∧ ∀ w, S w → E w → wpList P ops Q (ops.toList.drop t0) a w
  | f + 1, listed, a, E => Region.ready md ops listed ≠ [] ∧ ∀ i ∈ Region.ready md ops listed, i < t0 ∧ stepU P ops S B Z i (wpU P md ops Q S t0 B Z f (listed.setIfInBounds i true)) a E

theorem wpU_anti : ∀ (f : Nat) (listed : Array Bool) (a : Act) (E E' : World → Prop), (∀ w, E' w → E w) → wpU P md ops Q S t0 B Z f listed a E → wpU P md ops Q S t0 B Z f listed a E'
  | 0, _, _, _, _, hE, h => ⟨h.1, fun w hS h' => h.2 w hS (hE w h')⟩
  | f + 1, listed, a, E, E', hE, h => ⟨h.1, fun i hi => ⟨(h.2 i hi).1, by
    have hs := (h.2 i hi).2
    unfold stepU at *
    split at hs
    · exact hs
    · split at hs
      · rename_i h1; simp only [h1, if_true]; exact ⟨hs.1, fun b hb => wpU_anti f _ _ _ _ (fun w hw => ⟨hE w hw.1, hw.2⟩) (hs.2 b hb)⟩
      · rename_i h1; simp only [h1]; obtain ⟨v, hy, hK⟩ := hs; exact ⟨v, hy, wpU_anti f _ _ _ _ hE hK⟩⟩⟩

/-- it holds of the draw -/
theorem wpU_sound (HS : Stable S) (hSB : ∀ w, S w → B ≤ w.heap.size) : ∀ (f : Nat) (listed : Array Bool) (a : Act) (E : World → Prop) (w : World), Stable E → S w → E w →
    wpU P md ops Q S t0 B Z f listed a E → wpAny P md ops Q (f + (ops.size - t0)) listed a w
  | 0, listed, a, E, w, _, hS, hE, h => by
    have hd : (ops.toList.drop t0).length = ops.size - t0 := by simp
    have := wpAny_of_seq (md := md) (ops.toList.drop t0) t0 listed a w (fun j => by simp [List.getElem?_drop]) (by rw [hd]; exact h.1) (h.2 w hS hE)
    rw [hd] at this
    rw [Nat.zero_add]; exact this
  | f + 1, listed, a, E, w, HE, hS, hE, h => by
    rw [show f + 1 + (ops.size - t0) = (f + (ops.size - t0)) + 1 by omega]
    refine ⟨fun h0 => absurd h0 h.1, fun i hi => ?_⟩
    have hs := (h.2 i hi).2
    unfold stepU at hs
    split at hs
    · exact hs.elim
    · rename_i o ho
      split at hs
      · exact hs.1.wpOp ho (wpU_sound HS hSB f _ _ _ _ (fun u u' hu hb => ⟨HE u u' hu.1 hb, Fresh.stable _ _ u u' hu.2 hb⟩) (HS w _ hS ((Below.refl _ _).alloc (Nat.le_refl _) _)) ⟨HE w _ hE ((Below.refl _ _).alloc (Nat.le_refl _) _), Fresh.new w _ _⟩ (hs.2 w.heap.size (hSB w hS)))
      · obtain ⟨v, hy, hK⟩ := hs
        exact hy.wpOp ho hS fun w' hb => wpU_sound HS hSB f _ _ _ _ HE (HS w w' hS hb) (HE w w' hE hb) hK

/-- what is ready lies ahead of the stores, as long as something there is not done -/
def tailB (md : Region.Mode) (ops : Array Oper) (t0 : Nat) : Bool := (t0 == ops.size) || (decide (t0 < ops.size) && Region.sinkB md ops t0 && Region.chainB md ops t0)
theorem ready_lt {listed : Array Bool} (hT : tailB md ops t0 = true) (inv : HeadInv md ops t0 listed) {i : Nat} (hit : i < t0) (hun : listed.getD i true = false) {j : Nat} (hj : j ∈ Region.ready md ops listed) : j < t0 := by
  unfold tailB at hT
  simp only [Bool.or_eq_true, beq_iff_eq, Bool.and_eq_true, decide_eq_true_eq] at hT
  rcases hT with hT | ⟨⟨h1, h2⟩, h3⟩
  · obtain ⟨_, o, ho, _⟩ := mem_ready.1 hj
    rw [hT]; exact (Array.getElem?_eq_some_iff.1 ho).1
  · rcases Nat.lt_or_ge j t0 with h | h
    · exact h
    · exact absurd hj (tail_waits h2 h3 h1 inv _ i rfl hit hun j h)

theorem wpU_first {i : Nat} {oi : Oper} {v : Value} (hi : ops[i]? = some oi) (hsel : ∀ (j : Nat) (o : Oper) cs b, ops[j]? = some o → o.op ≠ .select cs b) (hT : tailB md ops t0 = true) (hit : i < t0) (hna : isAlloc oi = false) :
    ∀ (f : Nat) (listed : Array Bool) (a : Act) (E : World → Prop), HeadInv md ops t0 listed →
      (∀ j oj, ops[j]? = some oj → j ≠ i → listed.getD j true = false → (∀ e ∈ oj.after, Region.binds md e = true → e.on ≠ i) → oi.apart ops oj = true) →
      i ∈ Region.ready md ops listed → YieldsU P ops S oi v a →
      wpU P md ops Q S t0 B Z f (listed.setIfInBounds i true) (a.put oi.dst v) E → wpU P md ops Q S t0 B Z (f + 1) listed a E := by
  intro f
  induction f with
  | zero =>
    intro listed a E inv _ hr hy H
    refine ⟨fun h => (by rw [h] at hr; cases hr), fun j hj => ?_⟩
    have hjt := ready_lt hT inv hit (mem_ready.1 hr).1 hj
    refine ⟨hjt, ?_⟩
    by_cases hji : j = i
    · subst hji; unfold stepU; simp only [hi, hna]; exact ⟨v, hy, H⟩
    · have := seqB_ready H.1 j (ready_mono hj hji)
      omega
  | succ f ih =>
    intro listed a E inv hfree hr hy H
    refine ⟨fun h => (by rw [h] at hr; cases hr), fun j hj => ?_⟩
    have hjt := ready_lt hT inv hit (mem_ready.1 hr).1 hj
    refine ⟨hjt, ?_⟩
    by_cases hji : j = i
    · subst hji; unfold stepU; simp only [hi, hna]; exact ⟨v, hy, H⟩
    · have h1 := (H.2 j (ready_mono hj hji)).2
      obtain ⟨hjun, oj, hoj, hall⟩ := mem_ready.1 hj
      have hap := hfree j oj hoj hji hjun (not_waits (j := j) (mem_ready.1 hr).1 hall)
      obtain ⟨a1, a2, a3⟩ := Oper.apart_spec hap
      have hsi := fun cs b => hsel i oi cs b hi
      have hsj := fun cs b => hsel j oj cs b hoj
      have next : ∀ (u : Value) (E' : World → Prop), wpU P md ops Q S t0 B Z f ((listed.setIfInBounds i true).setIfInBounds j true) ((a.put oi.dst v).put oj.dst u) E' → wpU P md ops Q S t0 B Z (f + 1) (listed.setIfInBounds j true) (a.put oj.dst u) E' := fun u E' h2 => by
        refine ih (listed.setIfInBounds j true) (a.put oj.dst u) E' (inv.set hj hjt) (free_later hjun hfree) (ready_mono hr (Ne.symm hji)) (hy.of_same (execOp_put oi hsi a oj.dst u a3) (wanted_put oi a oj.dst u a3)) ?_
        rw [Array.setIfInBounds_comm _ _ hji, ← Act.put_comm a v u a2]
        exact h2
      unfold stepU at *
      simp only [hoj] at *
      split at h1
      · rename_i k; simp only [k, if_true]
        exact ⟨h1.1.of_same (execOp_put oj hsj a oi.dst v a1).symm (wanted_put oj a oi.dst v a1).symm, fun b hb => next _ _ (h1.2 b hb)⟩
      · rename_i k; simp only [k]
        obtain ⟨u, hyu, hK⟩ := h1
        exact ⟨u, hyu.of_same (execOp_put oj hsj a oi.dst v a1).symm (wanted_put oj a oi.dst v a1).symm, next _ _ hK⟩

theorem wpU_first_alloc {i : Nat} {oi : Oper} (hi : ops[i]? = some oi) (hsel : ∀ (j : Nat) (o : Oper) cs b, ops[j]? = some o → o.op ≠ .select cs b) (hT : tailB md ops t0 = true) (hit : i < t0) (ha : isAlloc oi = true) :
    ∀ (f : Nat) (listed : Array Bool) (a : Act) (E : World → Prop), HeadInv md ops t0 listed →
      (∀ j oj, ops[j]? = some oj → j ≠ i → listed.getD j true = false → (∀ e ∈ oj.after, Region.binds md e = true → e.on ≠ i) → oi.apart ops oj = true) →
      i ∈ Region.ready md ops listed → (∀ j oj, ops[j]? = some oj → j < t0 → listed.getD j true = false → isAlloc oj = true) → YieldsA P ops Z oi a →
      (∀ b, B ≤ b → wpU P md ops Q S t0 B Z f (listed.setIfInBounds i true) (a.put oi.dst (.pointer (some ⟨b, 0, none⟩))) (fun w => E w ∧ Fresh b (Z (allocTy oi)) w)) → wpU P md ops Q S t0 B Z (f + 1) listed a E := by
  intro f
  induction f with
  | zero =>
    intro listed a E inv _ hr _ hy H
    refine ⟨fun h => (by rw [h] at hr; cases hr), fun j hj => ?_⟩
    have hjt := ready_lt hT inv hit (mem_ready.1 hr).1 hj
    refine ⟨hjt, ?_⟩
    by_cases hji : j = i
    · subst hji; unfold stepU; simp only [hi, ha, if_true]; exact ⟨hy, H⟩
    · have := seqB_ready (H B (Nat.le_refl _)).1 j (ready_mono hj hji)
      omega
  | succ f ih =>
    intro listed a E inv hfree hr hal hy H
    refine ⟨fun h => (by rw [h] at hr; cases hr), fun j hj => ?_⟩
    have hjt := ready_lt hT inv hit (mem_ready.1 hr).1 hj
    refine ⟨hjt, ?_⟩
    by_cases hji : j = i
    · subst hji; unfold stepU; simp only [hi, ha, if_true]; exact ⟨hy, H⟩
    · obtain ⟨hjun, oj, hoj, hall⟩ := mem_ready.1 hj
      have haj := hal j oj hoj hjt hjun
      have hap := hfree j oj hoj hji hjun (not_waits (j := j) (mem_ready.1 hr).1 hall)
      obtain ⟨a1, a2, a3⟩ := Oper.apart_spec hap
      have hsi := fun cs b => hsel i oi cs b hi
      have hsj := fun cs b => hsel j oj cs b hoj
      have h0 := ((H B (Nat.le_refl _)).2 j (ready_mono hj hji)).2
      unfold stepU at h0 ⊢
      simp only [hoj, haj, if_true] at h0 ⊢
      refine ⟨h0.1.of_same (execOp_put oj hsj a oi.dst _ a1).symm (wanted_put oj a oi.dst _ a1).symm, fun b' hb' => ?_⟩
      refine ih (listed.setIfInBounds j true) _ _ (inv.set hj hjt) (free_later hjun hfree) (ready_mono hr (Ne.symm hji)) (fun k ok hk hkt hun => ?_) (hy.of_same (execOp_put oi hsi a oj.dst _ a3) (wanted_put oi a oj.dst _ a3)) (fun b hb => ?_)
      · by_cases hjk : j = k
        · subst hjk; exact hal j ok hk hkt hjun
        · rw [getD_set_ne true hjk] at hun; exact hal k ok hk hkt hun
      · have h1 := ((H b hb).2 j (ready_mono hj hji)).2
        unfold stepU at h1
        simp only [hoj, haj, if_true] at h1
        have h2 := h1.2 b' hb'
        rw [Array.setIfInBounds_comm _ _ hji, ← Act.put_comm a _ _ a2]
        exact wpU_anti _ _ _ _ _ (fun w hw => ⟨⟨hw.1.1, hw.2⟩, hw.1.2⟩) h2

/-- the walk, in the order of the text -/
def wpHU (P : Program) (md : Region.Mode) (ops : Array Oper) (Q : Exit → Act → World → Prop) (S : World → Prop) (t0 B : Nat) (Z : TypeId → Array Value) (L : Act → World → Prop) : List Oper → Act → (World → Prop) → Prop
  | [], a, E => ∀ w, S w → E w → L a w
  | o :: rest, a, E =>
    (isAlloc o = false ∧ ∃ v, YieldsU P ops S o v a ∧ wpHU P md ops Q S t0 B Z L rest (a.put o.dst v) E) ∨
    (isAlloc o = true ∧ YieldsA P ops Z o a ∧ ∀ b, B ≤ b → wpHU P md ops Q S t0 B Z L rest (a.put o.dst (.pointer (some ⟨b, 0, none⟩))) (fun w => E w ∧ Fresh b (Z (allocTy o)) w))
theorem hu_val {L : Act → World → Prop} {o : Oper} {rest : List Oper} {a : Act} {E : World → Prop} (v : Value) (hna : isAlloc o = false) (hw : Region.wanted o (yielded ops a.tmps) = true) (hy : ∀ w, S w → (execOp a.eval o).run P w = .ok (.value v) w)
    (h : wpHU P md ops Q S t0 B Z L rest (a.put o.dst v) E) : wpHU P md ops Q S t0 B Z L (o :: rest) a E := .inl ⟨hna, v, .inl ⟨hw, fun w hS => .inl (hy w hS)⟩, h⟩
theorem hu_call {L : Act → World → Prop} {o : Oper} {rest : List Oper} {a : Act} {E : World → Prop} (v : Value) (f : FuncId) (args : Array Value) (hna : isAlloc o = false) (hw : Region.wanted o (yielded ops a.tmps) = true) (hy : ∀ w, S w → (execOp a.eval o).run P w = .ok (.enter f args) w)
    (hc : ∀ w, S w → Calls P f args w fun e w' => e = .returned v ∧ Below w.heap.size w w') (h : wpHU P md ops Q S t0 B Z L rest (a.put o.dst v) E) : wpHU P md ops Q S t0 B Z L (o :: rest) a E :=
  .inl ⟨hna, v, .inl ⟨hw, fun w hS => .inr ⟨f, args, hy w hS, hc w hS⟩⟩, h⟩
theorem hu_skip {L : Act → World → Prop} {o : Oper} {rest : List Oper} {a : Act} {E : World → Prop} (hna : isAlloc o = false) (hw : Region.wanted o (yielded ops a.tmps) = false) (h : wpHU P md ops Q S t0 B Z L rest (a.put o.dst undef) E) :
    wpHU P md ops Q S t0 B Z L (o :: rest) a E := .inl ⟨hna, undef, .inr ⟨hw, rfl⟩, h⟩
theorem hu_alloc {L : Act → World → Prop} {o : Oper} {rest : List Oper} {a : Act} {E : World → Prop} (ha : isAlloc o = true) (hy : YieldsA P ops Z o a)
    (h : ∀ b, B ≤ b → wpHU P md ops Q S t0 B Z L rest (a.put o.dst (.pointer (some ⟨b, 0, none⟩))) (fun w => E w ∧ Fresh b (Z (allocTy o)) w)) : wpHU P md ops Q S t0 B Z L (o :: rest) a E := .inr ⟨ha, hy, h⟩

/-- behind number k, are there new variables alone, ahead of t0? -/
def restAllocs (ops : Array Oper) (t0 k : Nat) : Bool := (List.range t0).all fun j => decide (j < k) || match ops[j]? with | some o => isAlloc o | none => false
def headUB (md : Region.Mode) (ops : Array Oper) (t0 : Nat) : Nat → Nat → Array Bool → Bool
  | 0, _, listed => Region.seqB md ops (ops.size - t0) t0 listed
  | f + 1, k, listed => (Region.ready md ops listed).contains k && Region.free md ops listed k && (match ops[k]? with | some o => !isAlloc o || restAllocs ops t0 k | none => false) && headUB md ops t0 f (k + 1) (listed.setIfInBounds k true)

theorem headU_sound (hsel : Region.noSelect ops = true) (hT : tailB md ops t0 = true) : ∀ (l : List Oper) (k : Nat) (listed : Array Bool) (a : Act) (E : World → Prop), HeadInv md ops t0 listed → (∀ j, j < k → listed.getD j true = true) →
    (∀ j, j < l.length → l[j]? = ops[k + j]?) → k + l.length = t0 → headUB md ops t0 l.length k listed = true →
    wpHU P md ops Q S t0 B Z (wpList P ops Q (ops.toList.drop t0)) l a E → wpU P md ops Q S t0 B Z l.length listed a E
  | [], _, _, _, _, _, _, _, _, hB, h => ⟨hB, h⟩
  | o :: l, k, listed, a, E, inv, hdone, hl, hk, hB, h => by
    have h0 : ops[k]? = some o := by simpa using (hl 0 (by simp)).symm
    simp only [List.length_cons, headUB, Bool.and_eq_true, h0] at hB
    obtain ⟨⟨⟨hr, hf⟩, hra⟩, hB'⟩ := hB
    simp only [List.length_cons] at hk
    have hr' : k ∈ Region.ready md ops listed := by simpa using hr
    have hl' : ∀ j, j < l.length → l[j]? = ops[k + 1 + j]? := fun j hj => by have := hl (j + 1) (by simp; omega); simpa [Nat.add_assoc, Nat.add_comm 1 j] using this
    have hkt : k < t0 := by omega
    have hdone' : ∀ j, j < k + 1 → (listed.setIfInBounds k true).getD j true = true := fun j hj => by
      by_cases hjk : k = j
      · subst hjk
        rcases Nat.lt_or_ge k listed.size with h' | h'
        · simp [h']
        · simp [Array.getElem?_eq_none h']
      · rw [getD_set_ne true hjk]; exact hdone j (by omega)
    have next := fun (a' : Act) (E' : World → Prop) => headU_sound hsel hT l (k + 1) (listed.setIfInBounds k true) a' E' (inv.set hr' hkt) hdone' hl' (by omega) hB'
    rcases h with ⟨hna, v, hy, h⟩ | ⟨ha, hy, h⟩
    · exact wpU_first h0 (Region.noSelect_spec hsel) hT hkt hna _ listed a E inv (Region.free_spec h0 hf) hr' hy (next _ _ h)
    · refine wpU_first_alloc h0 (Region.noSelect_spec hsel) hT hkt ha _ listed a E inv (Region.free_spec h0 hf) hr' (fun j oj hj hjt hun => ?_) hy (fun b hb => next _ _ (h b hb))
      simp only [ha, Bool.not_true, Bool.false_or] at hra
      have h1 := List.all_eq_true.1 hra j (List.mem_range.2 hjt)
      rw [hj, Bool.or_eq_true, decide_eq_true_iff] at h1
      rcases h1 with h1 | h1
      · rw [hdone j h1] at hun; cases hun
      · exact h1

def uniB (ops : Array Oper) (t0 : Nat) : Bool := Region.noSelect ops && decide (t0 ≤ ops.size) && tailB .any ops t0 && headUB .any ops t0 t0 0 (Array.replicate ops.size false)

theorem uni_any {a : Act} {w : World} {l : List Oper} (t0 : Nat) (S : World → Prop) (B : Nat) (Z : TypeId → Array Value) (hB : uniB l.toArray t0 = true) (HS : Stable S) (hSB : ∀ w, S w → B ≤ w.heap.size) (hS : S w.drew)
    (h : wpHU P .any l.toArray Q S t0 B Z (wpList P l.toArray Q (l.drop t0)) (l.take t0) a (fun _ => True)) : wpAny P .any l.toArray Q l.toArray.size (Array.replicate l.toArray.size false) a w.drew := by
  simp only [uniB, Bool.and_eq_true, decide_eq_true_eq] at hB
  obtain ⟨⟨⟨hsel, ht0⟩, hT⟩, hB⟩ := hB
  have htl : (l.take t0).length = t0 := by simp at ht0 ⊢; omega
  have inv0 : HeadInv .any l.toArray t0 (Array.replicate l.toArray.size false) :=
    ⟨by simp, fun j oj _ hl => (by rw [getD_replicate_false] at hl; cases hl), fun t _ ht => getD_in (by simpa using ht) (getD_replicate_false _ _)⟩
  have H := headU_sound (P := P) (Q := Q) (S := S) (B := B) (Z := Z) (md := .any) (t0 := t0) hsel hT (l.take t0) 0 (Array.replicate l.toArray.size false) a (fun _ => True) inv0 (fun j hj => absurd hj (Nat.not_lt_zero j)) (fun j hj => by
    have hj' : j < t0 := by rw [htl] at hj; exact hj
    simp [hj']) (by omega) (by rw [htl]; exact hB) h
  have := wpU_sound HS hSB _ _ _ _ w.drew (fun _ _ _ _ => trivial) hS trivial H
  rw [htl, show t0 + (l.toArray.size - t0) = l.toArray.size by omega] at this
  exact this

/-- THE REGION, anywhere -/
theorem wp_region_uni {id : Nat} {a : Act} {w : World} {l : List Oper} (t0 : Nat) (S : World → Prop) (B : Nat) (Z : TypeId → Array Value) (hm : P.follows .mixedOrders = true) (hB : uniB l.toArray t0 = true) (HS : Stable S) (hSB : ∀ w, S w → B ≤ w.heap.size) (hS : S w.drew)
    (h : wpHU P .any l.toArray Q S t0 B Z (wpList P l.toArray Q (l.drop t0)) (l.take t0) a (fun _ => True)) : (Code.region id l.toArray true).wp P Q a w :=
  wp_region_any hm (uni_any t0 S B Z hB HS hSB hS h)
end
end Go.Proofs.YtpfoifflfgiaoaaGreatDoor
namespace Go.Proofs.YtpfoifflfgiaoaaGreatDoor
open Go Go.RowKit

section
variable {P : Program} {ops : Array Oper} {Q : Exit → Act → World → Prop} {md : Region.Mode} {S : World → Prop} {t0 : Nat} {Fact : Nat → Value → World → Prop}

/-- does the operation wait for number k? -/
def waitsOn (md : Region.Mode) (o : Oper) (k : Nat) : Bool := o.after.toList.any fun e => Region.binds md e && (e.on == k)
theorem waitsOn_spec {o : Oper} {k : Nat} (h : waitsOn md o k = true) : ∃ e ∈ o.after, Region.binds md e = true ∧ e.on = k := by
  obtain ⟨e, he, h2⟩ := List.any_eq_true.1 h
  simp only [Bool.and_eq_true, beq_iff_eq] at h2
  exact ⟨e, Array.mem_toList_iff.1 he, h2.1, h2.2⟩
def updR (ρ : Nat → Value) (i : Nat) (v : Value) : Nat → Value := fun k => if k = i then v else ρ k

/-- the frame, with the values of those operations that the mask has -/
def layM (ops : Array Oper) (m : Nat → Bool) (ρ : Nat → Value) : Nat → Act → Act
  | 0, a => a
  | n + 1, a => if m n = true then (match ops[n]? with | some o => (layM ops m ρ n a).put o.dst (ρ n) | none => layM ops m ρ n a) else layM ops m ρ n a

theorem layM_congr {m m' : Nat → Bool} {ρ ρ' : Nat → Value} : ∀ (n : Nat) (a : Act), (∀ j, j < n → m j = m' j) → (∀ j, j < n → m j = true → ρ j = ρ' j) → layM ops m ρ n a = layM ops m' ρ' n a
  | 0, _, _, _ => rfl
  | n + 1, a, hm, hρ => by
    have ih := layM_congr n a (fun j hj => hm j (by omega)) (fun j hj => hρ j (by omega))
    unfold layM
    rw [ih, ← hm n (by omega)]
    by_cases h : m n = true
    · rw [hρ n (by omega) h]
    · simp [h]
theorem layM_none {m : Nat → Bool} {ρ : Nat → Value} : ∀ (n : Nat) (a : Act), (∀ j, j < n → m j = false) → layM ops m ρ n a = a
  | 0, _, _ => rfl
  | n + 1, a, h => by
    unfold layM
    rw [if_neg (by rw [h n (by omega)]; decide)]
    exact layM_none n a (fun j hj => h j (by omega))
theorem put_size (a : Act) (d : Option Tmp) (v : Value) : (a.put d v).tmps.size = a.tmps.size := by cases d <;> simp [Act.put]
theorem layM_size {m : Nat → Bool} {ρ : Nat → Value} : ∀ (n : Nat) (a : Act), (layM ops m ρ n a).tmps.size = a.tmps.size
  | 0, _ => rfl
  | n + 1, a => by
    unfold layM
    split
    · split
      · rw [put_size]; exact layM_size n a
      · exact layM_size n a
    · exact layM_size n a
theorem put_get (a : Act) (d : Option Tmp) (v : Value) (t : Nat) : (a.put d v).tmps[t]? = if d = some t ∧ t < a.tmps.size then some v else a.tmps[t]? := by
  cases d with
  | none => simp [Act.put]
  | some d =>
    by_cases h : d = t
    · subst h
      simp only [Act.put, true_and]
      by_cases h2 : d < a.tmps.size
      · simp [h2]
      · simp [h2]
    · simp [Act.put, h]
/-- a slot is the same under two masks that agree on the operations that lay it -/
theorem layM_slot {m m' : Nat → Bool} {ρ : Nat → Value} (t : Nat) : ∀ (n : Nat) (a : Act), (∀ j o, j < n → ops[j]? = some o → o.dst = some t → m j = m' j) → (layM ops m ρ n a).tmps[t]? = (layM ops m' ρ n a).tmps[t]?
  | 0, _, _ => rfl
  | n + 1, a, h => by
    have ih := layM_slot (ρ := ρ) (m := m) (m' := m') t n a (fun j o hj => h j o (by omega))
    have hs : (layM ops m ρ n a).tmps.size = (layM ops m' ρ n a).tmps.size := by rw [layM_size, layM_size]
    unfold layM
    cases ho : ops[n]? with
    | none => simp only []; split <;> split <;> exact ih
    | some o =>
      simp only []
      by_cases hd : o.dst = some t
      · rw [h n o (by omega) ho hd]
        split
        · rw [put_get, put_get, hs, ih]
        · exact ih
      · have hp : ∀ b : Act, (b.put o.dst (ρ n)).tmps[t]? = b.tmps[t]? := fun b => by rw [put_get, if_neg (fun h => hd h.1)]
        split <;> split <;> (try simp only [hp]) <;> exact ih
theorem eval_slot {a b : Act} {x : Operand} (h : ∀ t, x = .tmp t → a.tmps[t]? = b.tmps[t]?) : a.eval x = b.eval x := by
  cases x with
  | tmp t => have := h t rfl; simp [Act.eval, this]
  | _ => rfl
theorem exec_slots {o : Oper} (hs : ∀ cs b, o.op ≠ .select cs b) {a b : Act} (h : ∀ t ∈ o.looksAt ops, a.tmps[t]? = b.tmps[t]?) : execOp a.eval o = execOp b.eval o :=
  execOp_congr o hs fun x hx => eval_slot fun t ht => h t (by
    subst ht
    exact List.mem_append_left _ (List.mem_filterMap.2 ⟨.tmp t, by simpa using hx, rfl⟩))
theorem wanted_slots {o : Oper} {a b : Act} (h : ∀ t ∈ o.looksAt ops, a.tmps[t]? = b.tmps[t]?) : Region.wanted o (yielded ops a.tmps) = Region.wanted o (yielded ops b.tmps) := by
  unfold Region.wanted
  cases hg : o.guard with
  | none => rfl
  | some gw =>
    obtain ⟨g, want⟩ := gw
    have hy : yielded ops a.tmps g = yielded ops b.tmps g := by
      unfold yielded
      cases ht : (ops[g]?).bind (·.dst) with
      | none => rfl
      | some t =>
        have := h t (by simp [Oper.looksAt, hg, ht])
        simp [this]
    simp only [hy]

/-- what one operation does: its value, of which the fact holds behind it; old memory is kept -/
def GivesR (P : Program) (r : Result Next) (w : World) (F : Value → World → Prop) : Prop :=
  (∃ v w', r = .ok (.value v) w' ∧ F v w' ∧ Below w.heap.size w w') ∨ ∃ f args, r = .ok (.enter f args) w ∧ Calls P f args w fun e w' => ∃ v, e = .returned v ∧ F v w' ∧ Below w.heap.size w w'
def StepR (P : Program) (ops : Array Oper) (o : Oper) (a : Act) (w : World) (F : Value → World → Prop) : Prop :=
  (Region.wanted o (yielded ops a.tmps) = true ∧ GivesR P ((execOp a.eval o).run P w) w F) ∨ (Region.wanted o (yielded ops a.tmps) = false ∧ F undef w)
theorem StepR.wpOp {i : Nat} {o : Oper} {a : Act} {w : World} {F : Value → World → Prop} (hi : ops[i]? = some o) (hy : StepR P ops o a w F) {K : Act → World → Prop}
    (h : ∀ v w', F v w' → Below w.heap.size w w' → K (a.put o.dst v) w') : wpOp P ops Q i K a w := by
  unfold Go.wpOp
  simp only [hi]
  rcases hy with ⟨hw, hv⟩ | ⟨hw, hF⟩
  · simp only [hw, if_true, Oper.wp]
    rcases hv with ⟨v, w', e, hF, hb⟩ | ⟨f, args, e, hc⟩
    · rw [e]; exact .inl (h v w' hF hb)
    · rw [e]; exact .inl (hc.mono fun e w' ⟨v, he, hF, hb⟩ => by subst he; exact h v w' hF hb)
  · simp only [hw, Bool.false_eq_true, if_false]; exact h undef w hF (Below.refl _ _)

def depB (md : Region.Mode) (ops : Array Oper) (t0 : Nat) : Bool := (List.range t0).all fun i => match ops[i]? with
  | none => false
  | some o => o.after.toList.all (fun e => !Region.binds md e || decide (e.on < i)) && (List.range t0).all fun j => match ops[j]? with
    | none => false
    | some oj => match oj.dst with
      | none => true
      | some d => (!(o.looksAt ops).contains d || waitsOn md o j) && (decide (j = i) || !(o.dst == some d))
theorem depB_spec (h : depB md ops t0 = true) {i : Nat} (hi : i < t0) : ∃ o, ops[i]? = some o ∧ (∀ e ∈ o.after, Region.binds md e = true → e.on < i) ∧
    ∀ j, j < t0 → ∃ oj, ops[j]? = some oj ∧ ∀ d, oj.dst = some d → (d ∈ o.looksAt ops → waitsOn md o j = true) ∧ (j ≠ i → o.dst ≠ some d) := by
  have h1 := List.all_eq_true.1 h i (List.mem_range.2 hi)
  cases ho : ops[i]? with
  | none => rw [ho] at h1; cases h1
  | some o =>
    rw [ho] at h1
    simp only [Bool.and_eq_true] at h1
    refine ⟨o, rfl, fun e he hb => ?_, fun j hj => ?_⟩
    · have := List.all_eq_true.1 h1.1 e (Array.mem_toList_iff.2 he)
      simpa [hb] using this
    · have h2 := List.all_eq_true.1 h1.2 j (List.mem_range.2 hj)
      cases hoj : ops[j]? with
      | none => rw [hoj] at h2; cases h2
      | some oj =>
        rw [hoj] at h2
        refine ⟨oj, rfl, fun d hd => ?_⟩
        simp only [hd, Bool.and_eq_true, Bool.or_eq_true, Bool.not_eq_true', decide_eq_true_eq] at h2
        refine ⟨fun hm => ?_, fun hne he => ?_⟩
        · rcases h2.1 with h3 | h3
          · simp [hm] at h3
          · exact h3
        · rcases h2.2 with h3 | h3
          · exact hne h3
          · rw [he] at h3; simp at h3

def cntU (listed : Array Bool) : Nat → Nat
  | 0 => 0
  | n + 1 => cntU listed n + if listed.getD n false = true then 0 else 1
theorem cntU_set {listed : Array Bool} {i : Nat} (hs : i < listed.size) (hun : listed.getD i false = false) : ∀ n, cntU (listed.setIfInBounds i true) n + (if i < n then 1 else 0) = cntU listed n
  | 0 => by simp [cntU]
  | n + 1 => by
    have ih := cntU_set hs hun n
    unfold cntU
    by_cases h : i = n
    · subst h
      have e : (listed.setIfInBounds i true).getD i false = true := by simp [hs]
      rw [e, hun]
      simp at ih ⊢
      omega
    · rw [getD_set_ne false h]
      by_cases h2 : i < n
      · rw [if_pos h2] at ih; rw [if_pos (show i < n + 1 by omega)]; omega
      · rw [if_neg h2] at ih; rw [if_neg (show ¬ i < n + 1 by omega)]; omega
theorem cntU_zero {listed : Array Bool} : ∀ {n : Nat}, cntU listed n = 0 → ∀ j, j < n → listed.getD j false = true
  | 0, _, j, hj => by omega
  | n + 1, h, j, hj => by
    unfold cntU at h
    by_cases e : listed.getD n false = true
    · rw [if_pos e] at h
      by_cases h2 : j = n
      · subst h2; exact e
      · exact cntU_zero (n := n) (by omega) j (by omega)
    · rw [if_neg e] at h; omega
theorem cntU_pos {listed : Array Bool} : ∀ {n : Nat}, 0 < cntU listed n → ∃ i, i < n ∧ listed.getD i false = false ∧ ∀ j, j < i → listed.getD j false = true
  | 0, h => by simp [cntU] at h
  | n + 1, h => by
    by_cases h2 : 0 < cntU listed n
    · obtain ⟨i, hi, a, b⟩ := cntU_pos h2
      exact ⟨i, by omega, a, b⟩
    · unfold cntU at h
      by_cases e : listed.getD n false = true
      · rw [if_pos e] at h; omega
      · exact ⟨n, by omega, by simpa using e, cntU_zero (by omega)⟩
theorem cntU_all {m : Nat} : ∀ n, cntU (Array.replicate m false) n = n
  | 0 => rfl
  | n + 1 => by unfold cntU; rw [cntU_all n, getD_replicate_false]; simp

def headMask (ops : Array Oper) (t0 : Nat) : Array Bool := (List.range ops.size).map (fun j => decide (j < t0)) |>.toArray
theorem headMask_eq {listed : Array Bool} (hs : listed.size = ops.size) (hh : ∀ j, j < t0 → listed.getD j false = true) (ht : ∀ t, t0 ≤ t → t < ops.size → listed.getD t true = false) : listed = headMask ops t0 := by
  apply Array.ext
  · simp [headMask, hs]
  · intro i h1 h2
    have e : (headMask ops t0)[i] = decide (i < t0) := by simp [headMask]
    rw [e]
    by_cases h : i < t0
    · have := hh i h; simp [h1] at this; rw [this]; simp [h]
    · have := ht i (by omega) (by omega); simp [h1] at this; rw [this]; simp [h]

theorem layM_put (hok : depB md ops t0 = true) {i : Nat} {o : Oper} (hi : ops[i]? = some o) (hit : i < t0) {m : Nat → Bool} (hm : m i = false) {ρ : Nat → Value} (v : Value) :
    ∀ (n : Nat) (a : Act), i < n → n ≤ t0 → (layM ops m ρ n a).put o.dst v = layM ops (fun k => decide (k = i) || m k) (updR ρ i v) n a
  | 0, _, h, _ => by omega
  | n + 1, a, h, hn => by
    by_cases e : n = i
    · subst e
      have h1 : layM ops m ρ n a = layM ops (fun k => decide (k = n) || m k) (updR ρ n v) n a := layM_congr n a (fun j hj => by rw [decide_eq_false (by omega)]; rfl) (fun j hj _ => by unfold updR; rw [if_neg (by omega)])
      conv => lhs; unfold layM
      conv => rhs; unfold layM
      simp only [hm, Bool.false_eq_true, if_false, decide_true, Bool.true_or, if_true, hi]
      rw [← h1]
      unfold updR
      rw [if_pos rfl]
    · have ih := layM_put hok hi hit hm (ρ := ρ) v n a (by omega) (by omega)
      obtain ⟨on, hon, _, hon2⟩ := depB_spec hok (i := n) (by omega)
      conv => lhs; unfold layM
      conv => rhs; unfold layM
      rw [← ih]
      have e2 : (decide (n = i) || m n) = m n := by rw [decide_eq_false e]; rfl
      simp only [hon, e2]
      split
      · have e3 : updR ρ i v n = ρ n := by unfold updR; rw [if_neg e]
        rw [e3]
        apply Act.put_comm
        intro d hd hd2
        obtain ⟨oj, hoj, h5⟩ := hon2 i hit
        have : oj = o := Option.some.inj (hoj.symm.trans hi)
        subst this
        exact (h5 d hd2).2 (fun h => e h.symm) hd
      · rfl

def uniRB (ops : Array Oper) (t0 : Nat) : Bool := Region.noSelect ops && decide (t0 ≤ ops.size) && tailB .any ops t0 && depB .any ops t0 && Region.seqB .any ops (ops.size - t0) t0 (headMask ops t0)
end
end Go.Proofs.YtpfoifflfgiaoaaGreatDoor
namespace Go.Proofs.YtpfoifflfgiaoaaGreatDoor
open Go.RowKit

structure Kept (B : Nat) (W w : World) : Prop where
  below : Below B W w
  size : B ≤ w.heap.size

theorem Kept.refl (w : World) : Kept w.heap.size w w := ⟨Below.refl _ _, Nat.le_refl _⟩
theorem Kept.alloc {B : Nat} {W w : World} (h : Kept B W w) (o : Obj) : Kept B W (w.alloc o) := ⟨h.below.alloc h.size o, by simp; exact Nat.le_succ_of_le h.size⟩
theorem Kept.step {B : Nat} {W w w' : World} (h : Kept B W w) (k : Below w.heap.size w w') : Kept B W w' := ⟨h.below.trans (k.mono h.size), Nat.le_trans h.size k.size⟩
theorem Kept.drew {B : Nat} {W w : World} (h : Kept B W w) : Kept B W w.drew := ⟨h.below.drew, h.size⟩
theorem Kept.setCell {B : Nat} {W w : World} (h : Kept B W w) {p : Addr} (hp : B ≤ p.block) (v : Value) : Kept B W (w.setCell p v) := ⟨h.below.setCell hp v, by have := h.size; simpa [World.setCell] using this⟩

theorem ret_bool {a b : Bool} (h : a = b) : Ending.returned (.bool a) = .returned (.bool b) := by rw [h]
theorem ret_int {k : IntKind} {a b : Int} (h : a = b) : Ending.returned (.int k a) = .returned (.int k b) := by rw [h]
/-- a contract whose answer is known to be b -/
theorem Calls.known {P : Program} {f : FuncId} {args : Array Value} {w : World} {a : Bool} {R : World → Prop} (b : Bool) (h : a = b)
    (c : Calls P f args w fun e w' => e = .returned (.bool a) ∧ R w') : Calls P f args w fun e w' => e = .returned (.bool b) ∧ R w' := by
  subst h; exact c
/-- a contract whose answer has another name -/
theorem calls_to {P : Program} {f : FuncId} {args : Array Value} {w : World} {U V : Value} {R : World → Prop} (c : Calls P f args w fun e w' => e = .returned U ∧ R w') (h : U = V) :
    Calls P f args w fun e w' => e = .returned V ∧ R w' := h ▸ c
/-- what a call that keeps old memory gives the walk: rewrite rules, for cells, for marks, and for the numbers of blocks -/
theorem bcell {W w1 : World} (hb : Below W.heap.size W w1) : (∀ b o, b < W.heap.size → w1.cell? ⟨b, o, none⟩ = W.cell? ⟨b, o, none⟩) ∧ (∀ b o, b < W.heap.size → w1.frozen? ⟨b, o, none⟩ = W.frozen? ⟨b, o, none⟩) ∧
    (∀ b, b < W.heap.size → b < w1.heap.size) ∧ (∀ b, b < W.heap.size → b ≤ w1.heap.size) ∧ (∀ b k, b < W.heap.size → b ≤ w1.heap.size + k) :=
  ⟨fun b o h => hb.cell (p := ⟨b, o, none⟩) h, fun b o h => hb.frozen (p := ⟨b, o, none⟩) h, fun _ h => Nat.lt_of_lt_of_le h hb.size, fun _ h => Nat.le_of_lt (Nat.lt_of_lt_of_le h hb.size),
    fun _ _ h => Nat.le_trans (Nat.le_of_lt (Nat.lt_of_lt_of_le h hb.size)) (Nat.le_add_right _ _)⟩

/-- WHAT IS KNOWN OF THE CALL's OWN BLOCKS in the world w: a row for each call made so far: the blocks that were laid ahead of it (from lo on, below W's size) are in w as they were in W -/
def Known : List (Nat × World) → World → Prop
  | [], _ => True
  | (lo, W) :: l, w => (∀ b o, lo ≤ b → b < W.heap.size → w.cell? ⟨b, o, none⟩ = W.cell? ⟨b, o, none⟩) ∧ (∀ b o, lo ≤ b → b < W.heap.size → w.frozen? ⟨b, o, none⟩ = W.frozen? ⟨b, o, none⟩) ∧
    (∀ b, lo ≤ b → b < W.heap.size → b < w.heap.size) ∧ (∀ b, lo ≤ b → b < W.heap.size → b ≤ w.heap.size) ∧ (∀ b k, lo ≤ b → b < W.heap.size → b ≤ w.heap.size + k) ∧ (∀ b, lo ≤ b → b < W.heap.size → b < w.heap.size + 1) ∧ (∀ b, lo ≤ b → b < W.heap.size → b < w.heap.size + 1 + 1) ∧ (∀ b, lo ≤ b → b < W.heap.size → b < w.heap.size + 1 + 1 + 1) ∧ Known l w

theorem Known.later {w w' : World} (hb : Below w.heap.size w w') : ∀ {l : List (Nat × World)}, Known l w → Known l w'
  | [], _ => trivial
  | (lo, W) :: l, ⟨h1, h2, h3, _, _, _, _, _, h7⟩ =>
    have s : ∀ b, lo ≤ b → b < W.heap.size → b < w'.heap.size := fun b a c => Nat.lt_of_lt_of_le (h3 b a c) hb.size
    ⟨fun b o a c => (hb.cell (p := ⟨b, o, none⟩) (h3 b a c)).trans (h1 b o a c), fun b o a c => (hb.frozen (p := ⟨b, o, none⟩) (h3 b a c)).trans (h2 b o a c), s,
      fun b a c => Nat.le_of_lt (s b a c), fun b _ a c => Nat.le_trans (Nat.le_of_lt (s b a c)) (Nat.le_add_right _ _), fun b a c => by have := s b a c; omega, fun b a c => by have := s b a c; omega, fun b a c => by have := s b a c; omega, later hb h7⟩

theorem Known.step {l : List (Nat × World)} {w W w' : World} (h : Known l w) (hW : Below w.heap.size w W) (hb : Below W.heap.size W w') : Known ((w.heap.size, W) :: l) w' :=
  have s : ∀ b, w.heap.size ≤ b → b < W.heap.size → b < w'.heap.size := fun _ _ c => Nat.lt_of_lt_of_le c hb.size
  ⟨fun b o _ c => hb.cell (p := ⟨b, o, none⟩) c, fun b o _ c => hb.frozen (p := ⟨b, o, none⟩) c, s, fun b a c => Nat.le_of_lt (s b a c), fun b _ a c => Nat.le_trans (Nat.le_of_lt (s b a c)) (Nat.le_add_right _ _),
    fun b a c => by have := s b a c; omega, fun b a c => by have := s b a c; omega, fun b a c => by have := s b a c; omega, (h.later hW).later hb⟩
/-- the newest row alone: every block from lo on is as it was when the call began (an older row would be wrong of a block that was written since) -/
theorem Known.only {W w' : World} (lo : Nat) (hb : Below W.heap.size W w') : Known [(lo, W)] w' :=
  have s : ∀ b, lo ≤ b → b < W.heap.size → b < w'.heap.size := fun _ _ c => Nat.lt_of_lt_of_le c hb.size
  ⟨fun b o _ c => hb.cell (p := ⟨b, o, none⟩) c, fun b o _ c => hb.frozen (p := ⟨b, o, none⟩) c, s, fun b a c => Nat.le_of_lt (s b a c), fun b _ a c => Nat.le_trans (Nat.le_of_lt (s b a c)) (Nat.le_add_right _ _),
    fun b a c => by have := s b a c; omega, fun b a c => by have := s b a c; omega, fun b a c => by have := s b a c; omega, trivial⟩
theorem Known.nil (w : World) : Known [] w := trivial
theorem kept_of {B : Nat} {W w : World} {p : Prop} (h : Kept B W w ∧ p) : Below B W w := h.1.below

/-! a number of four parts, stored part by part -/
section
variable {w : World} {b : Nat} {v0 v1 v2 v3 u0 u1 u2 u3 : Value}
def World.set4 (w : World) (b : Nat) (v0 v1 v2 v3 : Value) : World := (((w.setCell ⟨b, 0, none⟩ v0).setCell ⟨b, 1, none⟩ v1).setCell ⟨b, 2, none⟩ v2).setCell ⟨b, 3, none⟩ v3
theorem off_ne {b b' : Nat} {i j : Nat} (h : i ≠ j) : (⟨b, i, none⟩ : Addr) ≠ ⟨b', j, none⟩ := fun e => h (by injection e)
theorem blk_ne {b b' : Nat} {i j : Nat} (h : b ≠ b') : (⟨b, i, none⟩ : Addr) ≠ ⟨b', j, none⟩ := fun e => h (by injection e)
theorem set4_cells (c0 : w.cell? ⟨b, 0, none⟩ = some u0) (c1 : w.cell? ⟨b, 1, none⟩ = some u1) (c2 : w.cell? ⟨b, 2, none⟩ = some u2) (c3 : w.cell? ⟨b, 3, none⟩ = some u3) :
    (World.set4 w b v0 v1 v2 v3).cell? ⟨b, 0, none⟩ = some v0 ∧ (World.set4 w b v0 v1 v2 v3).cell? ⟨b, 1, none⟩ = some v1 ∧ (World.set4 w b v0 v1 v2 v3).cell? ⟨b, 2, none⟩ = some v2 ∧ (World.set4 w b v0 v1 v2 v3).cell? ⟨b, 3, none⟩ = some v3 := by
  unfold World.set4
  refine ⟨?_, ?_, ?_, ?_⟩
  · rw [World.cell?_setCell_other _ _ _ _ (off_ne (by decide)), World.cell?_setCell_other _ _ _ _ (off_ne (by decide)), World.cell?_setCell_other _ _ _ _ (off_ne (by decide)), World.cell?_setCell_same _ _ _ c0]
  · rw [World.cell?_setCell_other _ _ _ _ (off_ne (by decide)), World.cell?_setCell_other _ _ _ _ (off_ne (by decide)), World.cell?_setCell_same _ _ _ (u := u1)]
    rw [World.cell?_setCell_other _ _ _ _ (off_ne (by decide)), c1]
  · rw [World.cell?_setCell_other _ _ _ _ (off_ne (by decide)), World.cell?_setCell_same _ _ _ (u := u2)]
    rw [World.cell?_setCell_other _ _ _ _ (off_ne (by decide)), World.cell?_setCell_other _ _ _ _ (off_ne (by decide)), c2]
  · rw [World.cell?_setCell_same _ _ _ (u := u3)]
    rw [World.cell?_setCell_other _ _ _ _ (off_ne (by decide)), World.cell?_setCell_other _ _ _ _ (off_ne (by decide)), World.cell?_setCell_other _ _ _ _ (off_ne (by decide)), c3]
theorem set4_other {b' o : Nat} (h : b ≠ b') : (World.set4 w b v0 v1 v2 v3).cell? ⟨b', o, none⟩ = w.cell? ⟨b', o, none⟩ := by
  unfold World.set4
  rw [World.cell?_setCell_other _ _ _ _ (blk_ne h), World.cell?_setCell_other _ _ _ _ (blk_ne h), World.cell?_setCell_other _ _ _ _ (blk_ne h), World.cell?_setCell_other _ _ _ _ (blk_ne h)]
theorem set4_frozen (a : Addr) : (World.set4 w b v0 v1 v2 v3).frozen? a = w.frozen? a := by
  unfold World.set4; simp only [World.frozen?_setCell]
theorem set4_size : (World.set4 w b v0 v1 v2 v3).heap.size = w.heap.size := by
  unfold World.set4; simp only [World.size_setCell]
theorem set4_kept {B : Nat} {W : World} (h : Kept B W w) (hb : B ≤ b) : Kept B W (World.set4 w b v0 v1 v2 v3) := by
  unfold World.set4
  exact (((h.setCell hb _).setCell hb _).setCell hb _).setCell hb _
end

/-- block b holds these cells, and none of them is frozen -/
structure Box (w : World) (b : Nat) (vs : Array Value) : Prop where
  lt : b < w.heap.size
  cell : ∀ i v, vs[i]? = some v → w.cell? ⟨b, i, none⟩ = some v
  free : ∀ o, w.frozen? ⟨b, o, none⟩ = false
section
variable {w w' W : World} {b : Nat} {vs : Array Value}
theorem Box.newAt {c : Array Value} {t : TypeId} (h : b = w.heap.size) : Box (w.alloc (.cells c t)) b c := by
  subst h
  exact ⟨by simp, fun i v h => by simp [h], fun i => by simp⟩
theorem Box.alloc (h : Box w b vs) (o : Obj) : Box (w.alloc o) b vs :=
  ⟨by have := h.lt; simp only [World.size_alloc]; omega, fun i v hi => (World.cell?_alloc_lt w o ⟨b, i, none⟩ h.lt).trans (h.cell i v hi), fun i => (World.frozen?_alloc_old w o ⟨b, i, none⟩ (show b ≠ _ by have := h.lt; omega)).trans (h.free i)⟩
theorem Box.drew (h : Box w b vs) : Box w.drew b vs := ⟨h.lt, h.cell, h.free⟩
theorem Box.call (hb : Below W.heap.size W w') (h : Box W b vs) : Box w' b vs :=
  ⟨Nat.lt_of_lt_of_le h.lt hb.size, fun i v hi => (hb.cell (p := ⟨b, i, none⟩) h.lt).trans (h.cell i v hi), fun i => (hb.frozen (p := ⟨b, i, none⟩) h.lt).trans (h.free i)⟩
theorem Box.other {b' j : Nat} {v' : Value} (h : Box w b vs) (hne : b' ≠ b) : Box (w.setCell ⟨b', j, none⟩ v') b vs :=
  ⟨by rw [World.size_setCell]; exact h.lt, fun i v hi => by rw [World.cell?_setCell_other _ _ _ _ (blk_ne hne)]; exact h.cell i v hi, fun i => by rw [World.frozen?_setCell]; exact h.free i⟩
theorem Box.set {j : Nat} {v' : Value} (h : Box w b vs) : Box (w.setCell ⟨b, j, none⟩ v') b (vs.setIfInBounds j v') :=
  ⟨by rw [World.size_setCell]; exact h.lt, fun i v hi => by
    by_cases e : j = i
    · subst e
      rcases Nat.lt_or_ge j vs.size with hj | hj
      · have e2 : v = v' := by rw [Array.getElem?_setIfInBounds_self_of_lt hj] at hi; exact (Option.some.inj hi).symm
        subst e2
        exact World.cell?_setCell_same _ _ _ (h.cell j vs[j] (Array.getElem?_eq_getElem hj))
      · rw [Array.getElem?_eq_none (by simpa using hj)] at hi; cases hi
    · rw [World.cell?_setCell_other _ _ _ _ (off_ne e)]
      exact h.cell i v (by rw [Array.getElem?_setIfInBounds_ne e] at hi; exact hi), fun i => by rw [World.frozen?_setCell]; exact h.free i⟩
theorem Box.set10 {u0 v : Value} (h : Box w b #[u0]) : Box (w.setCell ⟨b, 0, none⟩ v) b #[v] := h.set
theorem Box.set20 {u0 u1 v : Value} (h : Box w b #[u0, u1]) : Box (w.setCell ⟨b, 0, none⟩ v) b #[v, u1] := h.set
theorem Box.set21 {u0 u1 v : Value} (h : Box w b #[u0, u1]) : Box (w.setCell ⟨b, 1, none⟩ v) b #[u0, v] := h.set
theorem Box.set40 {u0 u1 u2 u3 v : Value} (h : Box w b #[u0, u1, u2, u3]) : Box (w.setCell ⟨b, 0, none⟩ v) b #[v, u1, u2, u3] := h.set
theorem Box.set41 {u0 u1 u2 u3 v : Value} (h : Box w b #[u0, u1, u2, u3]) : Box (w.setCell ⟨b, 1, none⟩ v) b #[u0, v, u2, u3] := h.set
theorem Box.set42 {u0 u1 u2 u3 v : Value} (h : Box w b #[u0, u1, u2, u3]) : Box (w.setCell ⟨b, 2, none⟩ v) b #[u0, u1, v, u3] := h.set
theorem Box.set43 {u0 u1 u2 u3 v : Value} (h : Box w b #[u0, u1, u2, u3]) : Box (w.setCell ⟨b, 3, none⟩ v) b #[u0, u1, u2, v] := h.set
theorem Box.set50 {u0 u1 u2 u3 u4 v : Value} (h : Box w b #[u0, u1, u2, u3, u4]) : Box (w.setCell ⟨b, 0, none⟩ v) b #[v, u1, u2, u3, u4] := h.set
theorem Box.set51 {u0 u1 u2 u3 u4 v : Value} (h : Box w b #[u0, u1, u2, u3, u4]) : Box (w.setCell ⟨b, 1, none⟩ v) b #[u0, v, u2, u3, u4] := h.set
theorem Box.set52 {u0 u1 u2 u3 u4 v : Value} (h : Box w b #[u0, u1, u2, u3, u4]) : Box (w.setCell ⟨b, 2, none⟩ v) b #[u0, u1, v, u3, u4] := h.set
theorem Box.set53 {u0 u1 u2 u3 u4 v : Value} (h : Box w b #[u0, u1, u2, u3, u4]) : Box (w.setCell ⟨b, 3, none⟩ v) b #[u0, u1, u2, v, u4] := h.set
theorem Box.set54 {u0 u1 u2 u3 u4 v : Value} (h : Box w b #[u0, u1, u2, u3, u4]) : Box (w.setCell ⟨b, 4, none⟩ v) b #[u0, u1, u2, u3, v] := h.set
theorem box_mk4 {v0 v1 v2 v3 : Value} (l : b < w.heap.size) (c0 : w.cell? ⟨b, 0, none⟩ = some v0) (c1 : w.cell? ⟨b, 1, none⟩ = some v1) (c2 : w.cell? ⟨b, 2, none⟩ = some v2) (c3 : w.cell? ⟨b, 3, none⟩ = some v3) (f : ∀ o, w.frozen? ⟨b, o, none⟩ = false) : Box w b #[v0, v1, v2, v3] := ⟨l, (fun i v h => by
    match i, h with
    | 0, h => exact (Option.some.inj h) ▸ c0
    | 1, h => exact (Option.some.inj h) ▸ c1
    | 2, h => exact (Option.some.inj h) ▸ c2
    | 3, h => exact (Option.some.inj h) ▸ c3
    | i + 4, h => cases h), f⟩
end

/-! small orders that the walk meets -/
theorem nlt2 (n : Nat) : (n < n + 1 + 1) = True := by simp only [eq_iff_iff, iff_true]; omega
theorem nle2 (n : Nat) : (n ≤ n + 1 + 1) = True := by simp only [eq_iff_iff, iff_true]; omega
theorem nlt3 (n : Nat) : (n < n + 1 + 1 + 1) = True := by simp only [eq_iff_iff, iff_true]; omega
theorem nle3 (n : Nat) : (n ≤ n + 1 + 1 + 1) = True := by simp only [eq_iff_iff, iff_true]; omega
theorem nlt4 (n : Nat) : (n < n + 1 + 1 + 1 + 1) = True := by simp only [eq_iff_iff, iff_true]; omega
theorem nle4 (n : Nat) : (n ≤ n + 1 + 1 + 1 + 1) = True := by simp only [eq_iff_iff, iff_true]; omega
theorem nlt5 (n : Nat) : (n < n + 1 + 1 + 1 + 1 + 1) = True := by simp only [eq_iff_iff, iff_true]; omega
theorem nle5 (n : Nat) : (n ≤ n + 1 + 1 + 1 + 1 + 1) = True := by simp only [eq_iff_iff, iff_true]; omega
theorem nlt6 (n : Nat) : (n < n + 1 + 1 + 1 + 1 + 1 + 1) = True := by simp only [eq_iff_iff, iff_true]; omega
theorem nle6 (n : Nat) : (n ≤ n + 1 + 1 + 1 + 1 + 1 + 1) = True := by simp only [eq_iff_iff, iff_true]; omega
theorem nlt7 (n : Nat) : (n < n + 1 + 1 + 1 + 1 + 1 + 1 + 1) = True := by simp only [eq_iff_iff, iff_true]; omega
theorem nle7 (n : Nat) : (n ≤ n + 1 + 1 + 1 + 1 + 1 + 1 + 1) = True := by simp only [eq_iff_iff, iff_true]; omega
theorem nlt8 (n : Nat) : (n < n + 1 + 1 + 1 + 1 + 1 + 1 + 1 + 1) = True := by simp only [eq_iff_iff, iff_true]; omega
theorem nle8 (n : Nat) : (n ≤ n + 1 + 1 + 1 + 1 + 1 + 1 + 1 + 1) = True := by simp only [eq_iff_iff, iff_true]; omega
attribute [go_sem] nlt2 nle2 nlt3 nle3 nlt4 nle4 nlt5 nle5 nlt6 nle6 nlt7 nle7 nlt8 nle8
end Go.Proofs.YtpfoifflfgiaoaaGreatDoor
namespace Go.Proofs.YtpfoifflfgiaoaaGreatDoor

/-- a digit of a number -/
@[irreducible] def dig (i A : Nat) : Nat := A / 2 ^ (32 * i) % 2 ^ 32
def valL : List Nat → Nat
  | [] => 0
  | d :: l => d + 2 ^ 32 * valL l
def DigL (l : List Nat) : Prop := ∀ d ∈ l, d < 2 ^ 32
/-- the digits of a number, none of them a nought at the end -/
@[irreducible] def digs (A : Nat) : List Nat := if h : A = 0 then [] else A % 2 ^ 32 :: digs (A / 2 ^ 32)
  termination_by A
  decreasing_by exact Nat.div_lt_self (by omega) (by omega)
def lenN (A : Nat) : Nat := (digs A).length

theorem dig_lt (i A : Nat) : dig i A < 2 ^ 32 := by unfold dig; exact Nat.mod_lt _ (by omega)
theorem dig_succ (i A : Nat) : dig (i + 1) A = dig i (A / 2 ^ 32) := by
  unfold dig; rw [Nat.div_div_eq_div_mul, ← Nat.pow_add]; congr 3; omega
theorem dig_first (A : Nat) : dig 0 A = A % 2 ^ 32 := by unfold dig; simp
theorem digs_zero : digs 0 = [] := by rw [digs]; simp
theorem digs_pos {A : Nat} (h : A ≠ 0) : digs A = A % 2 ^ 32 :: digs (A / 2 ^ 32) := by rw [digs]; simp [h]
theorem lenN_zero : lenN 0 = 0 := by unfold lenN; rw [digs_zero]; rfl
theorem lenN_pos {A : Nat} (h : A ≠ 0) : lenN A = lenN (A / 2 ^ 32) + 1 := by unfold lenN; rw [digs_pos h]; rfl
theorem lenN_eq_zero {A : Nat} : lenN A = 0 ↔ A = 0 := by
  constructor
  · intro h
    rcases Nat.eq_zero_or_pos A with h0 | h0
    · exact h0
    · rw [lenN_pos (by omega)] at h; omega
  · rintro rfl; exact lenN_zero

theorem digs_get : ∀ (A i : Nat), (digs A)[i]? = if i < lenN A then some (dig i A) else none := by
  intro A
  induction A using Nat.strongRecOn with
  | ind A ih =>
    intro i
    by_cases h : A = 0
    · subst h; rw [digs_zero, lenN_zero]; simp
    · rw [digs_pos h, lenN_pos h]
      cases i with
      | zero => rw [dig_first]; simp
      | succ i =>
        rw [List.getElem?_cons_succ, ih (A / 2 ^ 32) (Nat.div_lt_self (by omega) (by omega)) i, dig_succ]
        by_cases hi : i < lenN (A / 2 ^ 32)
        · rw [if_pos hi, if_pos (by omega)]
        · rw [if_neg hi, if_neg (by omega)]
theorem digs_at {A i : Nat} (h : i < lenN A) : (digs A)[i]? = some (dig i A) := by rw [digs_get, if_pos h]
theorem lt_lenN : ∀ (A : Nat), A < 2 ^ (32 * lenN A) := by
  intro A
  induction A using Nat.strongRecOn with
  | ind A ih =>
    by_cases h : A = 0
    · subst h; rw [lenN_zero]; simp
    · have := ih (A / 2 ^ 32) (Nat.div_lt_self (by omega) (by omega))
      rw [lenN_pos h, Nat.mul_add, Nat.pow_add, Nat.mul_comm]
      have h2 := (Nat.div_lt_iff_lt_mul (x := A) (y := 2 ^ (32 * lenN (A / 2 ^ 32))) (k := 2 ^ 32) (by omega)).1 this
      rw [Nat.mul_comm] at h2; simpa using h2
theorem lenN_le : ∀ (k A : Nat), A < 2 ^ (32 * k) → lenN A ≤ k := by
  intro k
  induction k with
  | zero => intro A h; have : A = 0 := by simp at h; exact h
            subst this; rw [lenN_zero]; omega
  | succ k ih =>
    intro A h
    by_cases h0 : A = 0
    · subst h0; rw [lenN_zero]; omega
    · rw [lenN_pos h0]
      have := ih (A / 2 ^ 32) (by
        rw [Nat.div_lt_iff_lt_mul (by omega), ← Nat.pow_add]
        exact Nat.lt_of_lt_of_le h (Nat.pow_le_pow_right (by omega) (by omega)))
      omega
theorem lenN_mono {A B : Nat} (h : A ≤ B) : lenN A ≤ lenN B := lenN_le _ _ (Nat.lt_of_le_of_lt h (lt_lenN B))
theorem dig_beyond {A i : Nat} (h : lenN A ≤ i) : dig i A = 0 := by
  unfold dig
  rw [Nat.div_eq_of_lt (Nat.lt_of_lt_of_le (lt_lenN A) (Nat.pow_le_pow_right (by omega) (by omega)))]

theorem valL_append : ∀ (l m : List Nat), valL (l ++ m) = valL l + 2 ^ (32 * l.length) * valL m
  | [], m => by simp [valL]
  | d :: l, m => by
    rw [List.cons_append, valL, valL, valL_append l m, List.length_cons, Nat.mul_add, Nat.mul_add, Nat.pow_add, ← Nat.mul_assoc, Nat.mul_comm (2 ^ (32 * l.length)) (2 ^ (32 * 1))]
    simp [Nat.mul_assoc, Nat.add_assoc]
theorem valL_snoc (l : List Nat) (d : Nat) : valL (l ++ [d]) = valL l + d * 2 ^ (32 * l.length) := by
  rw [valL_append, show valL [d] = d by simp [valL], Nat.mul_comm]
theorem valL_lt : ∀ {l : List Nat}, DigL l → valL l < 2 ^ (32 * l.length)
  | [], _ => by simp [valL]
  | d :: l, h => by
    have h1 := valL_lt (l := l) fun x hx => h x (List.mem_cons_of_mem _ hx)
    have h2 := h d List.mem_cons_self
    rw [List.length_cons, valL, Nat.mul_add, Nat.pow_add, show (2 : Nat) ^ (32 * 1) = 2 ^ 32 from rfl]
    generalize 2 ^ (32 * l.length) = p at *
    omega
theorem DigL.take {l : List Nat} (h : DigL l) (n : Nat) : DigL (l.take n) := fun x hx => h x (List.mem_of_mem_take hx)
theorem DigL.nil : DigL [] := fun x hx => by cases hx

/-- digits with no nought at the end are the number's -/
theorem digs_of : ∀ {l : List Nat}, DigL l → (∀ i d, l[i]? = some d → i + 1 = l.length → d ≠ 0) → digs (valL l) = l
  | [], _, _ => digs_zero
  | d :: l, h, hn => by
    have hd := h d List.mem_cons_self
    have ih := digs_of (l := l) (fun x hx => h x (List.mem_cons_of_mem _ hx)) (fun i e hi hl => hn (i + 1) e (by simpa using hi) (by simp; omega))
    have hne : valL (d :: l) ≠ 0 := by
      cases l with
      | nil =>
        have := hn 0 d rfl rfl
        simp [valL]; exact this
      | cons e l =>
        intro h0
        have hv : valL (e :: l) = 0 := by simp only [valL] at h0 ⊢; omega
        rw [hv, digs_zero] at ih
        cases ih
    rw [digs_pos hne]
    have e1 : valL (d :: l) % 2 ^ 32 = d := by rw [valL]; omega
    have e2 : valL (d :: l) / 2 ^ 32 = valL l := by rw [valL]; omega
    rw [e1, e2, ih]
theorem take_snoc' {l : List Nat} {k : Nat} {d : Nat} (h : l[k]? = some d) : l.take (k + 1) = l.take k ++ [d] := by
  rw [List.take_add_one, h]; rfl
theorem valL_take_drop {l : List Nat} {k : Nat} (h : l[k]? = some 0) : valL (l.take (k + 1)) = valL (l.take k) := by
  rw [take_snoc' h, valL_snoc, Nat.zero_mul, Nat.add_zero]
theorem trim_end {l : List Nat} (hl : DigL l) {k d : Nat} (hk : k < l.length) (hd : l[k]? = some d) (h0 : d ≠ 0) : digs (valL (l.take (k + 1))) = l.take (k + 1) :=
  digs_of (hl.take _) fun i e hi hlen => by
    rw [List.length_take] at hlen
    have : i = k := by omega
    subst this
    rw [List.getElem?_take_of_lt (by omega), hd] at hi
    cases hi; exact h0

/-- a number up to a digit, and that digit -/
theorem mod_dig (A i : Nat) : A % 2 ^ (32 * (i + 1)) = A % 2 ^ (32 * i) + dig i A * 2 ^ (32 * i) := by
  unfold dig
  rw [Nat.mul_add, Nat.pow_add, Nat.mod_mul, Nat.mul_comm (2 ^ (32 * i)), show (2 : Nat) ^ (32 * 1) = 2 ^ 32 from rfl]
theorem mod_len {A k : Nat} (h : lenN A ≤ k) : A % 2 ^ (32 * k) = A :=
  Nat.mod_eq_of_lt (Nat.lt_of_lt_of_le (lt_lenN A) (Nat.pow_le_pow_right (by omega) (by omega)))
/-! sums -/
/-! differences -/
theorem dif_step32 {A B i V c : Nat} (hc : c ≤ 1) (h : V + B % 2 ^ (32 * i) = A % 2 ^ (32 * i) + c * 2 ^ (32 * i)) :
    V + ((dig i A + 2 ^ 32 - dig i B - c) % 2 ^ 32) * 2 ^ (32 * i) + B % 2 ^ (32 * (i + 1)) = A % 2 ^ (32 * (i + 1)) + (1 - (dig i A + 2 ^ 32 - dig i B - c) / 2 ^ 32) * 2 ^ (32 * (i + 1)) := by
  have hA := dig_lt i A; have hB := dig_lt i B
  rw [mod_dig A, mod_dig B, Nat.mul_add 32 i 1, Nat.pow_add, show (2 : Nat) ^ (32 * 1) = 2 ^ 32 from rfl]
  generalize dig i A = a at *
  generalize dig i B = b at *
  generalize 2 ^ (32 * i) = p at *
  have key : (a + 2 ^ 32 - b - c) % 2 ^ 32 + b + c = a + (1 - (a + 2 ^ 32 - b - c) / 2 ^ 32) * 2 ^ 32 := by
    rcases Nat.lt_or_ge a (b + c) with k | k
    · have e : (a + 2 ^ 32 - b - c) / 2 ^ 32 = 0 := by omega
      rw [e]; omega
    · have e : (a + 2 ^ 32 - b - c) / 2 ^ 32 = 1 := by omega
      rw [e]; omega
  have k2 : ((a + 2 ^ 32 - b - c) % 2 ^ 32 + b + c) * p = (a + (1 - (a + 2 ^ 32 - b - c) / 2 ^ 32) * 2 ^ 32) * p := by rw [key]
  rw [Nat.add_mul, Nat.add_mul, Nat.add_mul, Nat.mul_assoc, Nat.mul_comm (2 ^ 32) p] at k2
  omega
end Go.Proofs.YtpfoifflfgiaoaaGreatDoor
namespace Go.Proofs.YtpfoifflfgiaoaaGreatDoor

/-- part i of a number -/
@[irreducible] def limb (i R : Nat) : Int := ((R / 2 ^ (64 * i) % 2 ^ 64 : Nat) : Int)
def val2 (a0 a1 : Int) : Nat := a0.toNat + a1.toNat * 2 ^ 64
def val4 (a0 a1 a2 a3 : Int) : Nat := a0.toNat + a1.toNat * 2 ^ 64 + a2.toNat * 2 ^ 128 + a3.toNat * 2 ^ 192
/-- a part's range -/
structure U64 (a : Int) : Prop where
  lo : 0 ≤ a
  hi : a < 2 ^ 64

theorem U64.le {a : Int} (h : U64 a) : a ≤ 18446744073709551615 := by have := h.hi; omega
theorem U64.mk' {a : Int} (h0 : 0 ≤ a) (h1 : a ≤ 18446744073709551615) : U64 a := ⟨h0, by omega⟩
theorem limb_u64 (i R : Nat) : U64 (limb i R) := ⟨by unfold limb; omega, by unfold limb; omega⟩
theorem u64_zero : U64 0 := ⟨by omega, by omega⟩

theorem val2_lt {a0 a1 : Int} (h0 : U64 a0) (h1 : U64 a1) : val2 a0 a1 < 2 ^ 128 := by
  have := h0.lo; have := h0.hi; have := h1.lo; have := h1.hi
  unfold val2; omega
theorem val4_lt {a0 a1 a2 a3 : Int} (h0 : U64 a0) (h1 : U64 a1) (h2 : U64 a2) (h3 : U64 a3) : val4 a0 a1 a2 a3 < 2 ^ 256 := by
  have := h0.lo; have := h0.hi; have := h1.lo; have := h1.hi; have := h2.lo; have := h2.hi; have := h3.lo; have := h3.hi
  unfold val4; omega
theorem val4_limb (R : Nat) (h : R < 2 ^ 256) : val4 (limb 0 R) (limb 1 R) (limb 2 R) (limb 3 R) = R := by
  unfold val4 limb; simp only [Int.toNat_natCast]; omega
theorem val2_limb (R : Nat) (h : R < 2 ^ 128) : val2 (limb 0 R) (limb 1 R) = R := by
  unfold val2 limb; simp only [Int.toNat_natCast]; omega
theorem limb0_val4 {a0 a1 a2 a3 : Int} (h0 : U64 a0) (h1 : U64 a1) (h2 : U64 a2) (h3 : U64 a3) : limb 0 (val4 a0 a1 a2 a3) = a0 := by
  have := h0.lo; have := h0.hi; have := h1.lo; have := h1.hi; have := h2.lo; have := h2.hi; have := h3.lo; have := h3.hi
  unfold val4 limb; omega
theorem limb1_val4 {a0 a1 a2 a3 : Int} (h0 : U64 a0) (h1 : U64 a1) (h2 : U64 a2) (h3 : U64 a3) : limb 1 (val4 a0 a1 a2 a3) = a1 := by
  have := h0.lo; have := h0.hi; have := h1.lo; have := h1.hi; have := h2.lo; have := h2.hi; have := h3.lo; have := h3.hi
  unfold val4 limb; omega
theorem limb2_val4 {a0 a1 a2 a3 : Int} (h0 : U64 a0) (h1 : U64 a1) (h2 : U64 a2) (h3 : U64 a3) : limb 2 (val4 a0 a1 a2 a3) = a2 := by
  have := h0.lo; have := h0.hi; have := h1.lo; have := h1.hi; have := h2.lo; have := h2.hi; have := h3.lo; have := h3.hi
  unfold val4 limb; omega
theorem limb3_val4 {a0 a1 a2 a3 : Int} (h0 : U64 a0) (h1 : U64 a1) (h2 : U64 a2) (h3 : U64 a3) : limb 3 (val4 a0 a1 a2 a3) = a3 := by
  have := h0.lo; have := h0.hi; have := h1.lo; have := h1.hi; have := h2.lo; have := h2.hi; have := h3.lo; have := h3.hi
  unfold val4 limb; omega

/-- a part of four (or of two), by its place; 0 beyond -/
def part4 (a0 a1 a2 a3 z : Int) : Int := if z = 0 then a0 else if z = 1 then a1 else if z = 2 then a2 else if z = 3 then a3 else 0
def part2 (a0 a1 z : Int) : Int := if z = 0 then a0 else if z = 1 then a1 else 0
/-- a number shifted up, or down (below 0) -/
def shiftZ (A : Nat) (n : Int) : Nat := if 0 ≤ n then A * 2 ^ n.toNat else A / 2 ^ (-n).toNat
/-- a bit, 0 below the first -/
def bitZ (A : Nat) (z : Int) : Bool := decide (0 ≤ z) && A.testBit z.toNat

theorem bit_shiftZ (A : Nat) (n : Int) (k : Nat) : (shiftZ A n).testBit k = bitZ A (k - n) := by
  unfold shiftZ bitZ
  split
  · rw [Nat.mul_comm, Nat.testBit_two_pow_mul]
    by_cases h : n.toNat ≤ k
    · have h1 : (0 : Int) ≤ k - n := by omega
      have h2 : k - n.toNat = ((k : Int) - n).toNat := by omega
      rw [decide_eq_true h, decide_eq_true h1, h2]
    · have h1 : ¬ (0 : Int) ≤ k - n := by omega
      rw [decide_eq_false h, decide_eq_false h1]; rfl
  · rw [Nat.testBit_div_two_pow]
    have h1 : (0 : Int) ≤ k - n := by omega
    have h2 : k + (-n).toNat = ((k : Int) - n).toNat := by omega
    rw [decide_eq_true h1, h2, Bool.true_and]

theorem bit_limb (i R k : Nat) : (limb i R).toNat.testBit k = (decide (k < 64) && R.testBit (64 * i + k)) := by
  unfold limb
  rw [Int.toNat_natCast, Nat.testBit_mod_two_pow, Nat.testBit_div_two_pow, Nat.add_comm]

theorem wrap_u64_mod (x : Int) : IntKind.u64.wrap x = x % 2 ^ 64 := by
  unfold IntKind.wrap
  simp [IntKind.signed, IntKind.bits]
theorem wrap_u64 {x : Int} (h0 : 0 ≤ x) (h1 : x < 2 ^ 64) : IntKind.u64.wrap x = x := by
  rw [wrap_u64_mod]; omega

theorem or_u64 {x y : Int} (hx : U64 x) (hy : U64 y) : bits .or .u64 x y = ((x.toNat ||| y.toNat : Nat) : Int) := by
  obtain ⟨a, rfl⟩ := Int.eq_ofNat_of_zero_le hx.lo
  obtain ⟨b, rfl⟩ := Int.eq_ofNat_of_zero_le hy.lo
  have ha : a < 2 ^ 64 := by have := hx.hi; omega
  have hb : b < 2 ^ 64 := by have := hy.hi; omega
  have hab : a ||| b < 2 ^ 64 := Nat.or_lt_two_pow ha hb
  have e : (BitVec.ofNat 64 a ||| BitVec.ofNat 64 b).toNat = a ||| b := by
    rw [BitVec.toNat_or, BitVec.toNat_ofNat, BitVec.toNat_ofNat, Nat.mod_eq_of_lt ha, Nat.mod_eq_of_lt hb]
  show IntKind.u64.wrap ((BitVec.ofInt 64 ((a : Nat) : Int) ||| BitVec.ofInt 64 ((b : Nat) : Int)).toNat : Nat) = _
  rw [BitVec.ofInt_natCast, BitVec.ofInt_natCast, e, Int.toNat_natCast, Int.toNat_natCast, wrap_u64 (by omega) (by omega)]

/-- part j of what is shifted, as the code reckons it -/
def movedI (p : Int → Int) (n j : Int) : Int := bits .or .u64 (IntKind.u64.wrap (p (j - n / 64) * 2 ^ (n % 64).toNat)) (p (j - n / 64 - 1) / 2 / 2 ^ (63 - n % 64).toNat)

theorem u64_testBit {x : Int} (h : U64 x) (k : Nat) (hk : 64 ≤ k) : x.toNat.testBit k = false := by
  apply Nat.testBit_lt_two_pow
  have h1 : x.toNat < 2 ^ 64 := by have := h.hi; have := h.lo; omega
  exact Nat.lt_of_lt_of_le h1 (Nat.pow_le_pow_right (by omega) hk)

theorem moved_bits (p : Int → Int) (A : Nat) (n j : Int) (hp : ∀ z, U64 (p z)) (hb : ∀ z (k : Nat), k < 64 → (p z).toNat.testBit k = bitZ A (64 * z + k)) (hj : 0 ≤ j) :
    movedI p n j = limb j.toNat (shiftZ A n) := by
  obtain ⟨s, hs⟩ : ∃ s : Nat, n % 64 = s := ⟨(n % 64).toNat, by omega⟩
  have hs64 : s < 64 := by omega
  unfold movedI
  rw [hs, Int.toNat_natCast, wrap_u64_mod, show (63 - (s : Int)).toNat = 63 - s from by omega]
  obtain ⟨X, hX⟩ : ∃ X : Nat, p (j - n / 64) = X := ⟨(p (j - n / 64)).toNat, by have := (hp (j - n / 64)).lo; omega⟩
  obtain ⟨Y, hY⟩ : ∃ Y : Nat, p (j - n / 64 - 1) = Y := ⟨(p (j - n / 64 - 1)).toNat, by have := (hp (j - n / 64 - 1)).lo; omega⟩
  have bX := hb (j - n / 64)
  have bY := hb (j - n / 64 - 1)
  have uX := hp (j - n / 64)
  have uY := hp (j - n / 64 - 1)
  rw [hX] at bX uX
  rw [hY] at bY uY
  rw [hX, hY]
  have e1 : (X : Int) * 2 ^ s % 2 ^ 64 = ((X * 2 ^ s % 2 ^ 64 : Nat) : Int) := by
    rw [Int.natCast_emod, Int.natCast_mul, Int.natCast_pow]; rfl
  have e2 : (Y : Int) / 2 / 2 ^ (63 - s) = ((Y / 2 ^ (64 - s) : Nat) : Int) := by
    have : 64 - s = (63 - s) + 1 := by omega
    rw [this, Nat.pow_succ', ← Nat.div_div_eq_div_mul, Int.natCast_ediv, Int.natCast_ediv, Int.natCast_pow]; rfl
  have hY64 : Y < 2 ^ 64 := by have := uY.hi; omega
  have hU : X * 2 ^ s % 2 ^ 64 < 2 ^ 64 := Nat.mod_lt _ (by omega)
  have hV : Y / 2 ^ (64 - s) < 2 ^ 64 := Nat.lt_of_le_of_lt (Nat.div_le_self _ _) hY64
  rw [e1, e2, or_u64 ⟨Int.natCast_nonneg _, by omega⟩ ⟨Int.natCast_nonneg _, by omega⟩, Int.toNat_natCast, Int.toNat_natCast]
  have key : X * 2 ^ s % 2 ^ 64 ||| Y / 2 ^ (64 - s) = (limb j.toNat (shiftZ A n)).toNat := by
    apply Nat.eq_of_testBit_eq
    intro k
    rw [bit_limb, bit_shiftZ, Nat.testBit_or, Nat.testBit_mod_two_pow, Nat.mul_comm, Nat.testBit_two_pow_mul, Nat.testBit_div_two_pow]
    have ej : ((64 * j.toNat + k : Nat) : Int) - n = 64 * j + k - n := by omega
    rw [ej]
    by_cases hk : k < 64
    · rw [decide_eq_true hk, Bool.true_and, Bool.true_and]
      by_cases hks : s ≤ k
      · have b1 := bX (k - s) (by omega)
        have b2 := u64_testBit uY (k + (64 - s)) (by omega)
        rw [Int.toNat_natCast] at b1 b2
        rw [decide_eq_true hks, Bool.true_and, b1, b2, Bool.or_false]
        congr 1; omega
      · have b2 := bY (k + (64 - s)) (by omega)
        rw [Int.toNat_natCast] at b2
        rw [decide_eq_false hks, Bool.false_and, Bool.false_or, b2]
        congr 1; omega
    · have b2 := u64_testBit uY (k + (64 - s)) (by omega)
      rw [Int.toNat_natCast] at b2
      rw [decide_eq_false hk, b2]; rfl
  rw [key]
  have := (limb_u64 j.toNat (shiftZ A n)).lo
  omega

theorem part4_u64 {a0 a1 a2 a3 : Int} (h0 : U64 a0) (h1 : U64 a1) (h2 : U64 a2) (h3 : U64 a3) (z : Int) : U64 (part4 a0 a1 a2 a3 z) := by
  unfold part4; repeat' split
  all_goals first | assumption | exact u64_zero
theorem part4_bit {a0 a1 a2 a3 : Int} (h0 : U64 a0) (h1 : U64 a1) (h2 : U64 a2) (h3 : U64 a3) (z : Int) (k : Nat) (hk : k < 64) :
    (part4 a0 a1 a2 a3 z).toNat.testBit k = bitZ (val4 a0 a1 a2 a3) (64 * z + k) := by
  have hb : ∀ i : Nat, i < 4 → (limb i (val4 a0 a1 a2 a3)).toNat.testBit k = bitZ (val4 a0 a1 a2 a3) (64 * (i : Int) + k) := fun i _ => by
    rw [bit_limb, decide_eq_true hk, Bool.true_and]
    unfold bitZ
    rw [decide_eq_true (by omega), Bool.true_and]
    congr 1
  unfold part4
  split
  · subst z; have := hb 0 (by omega); rw [limb0_val4 h0 h1 h2 h3] at this; exact this
  · split
    · subst z; have := hb 1 (by omega); rw [limb1_val4 h0 h1 h2 h3] at this; exact this
    · split
      · subst z; have := hb 2 (by omega); rw [limb2_val4 h0 h1 h2 h3] at this; exact this
      · split
        · subst z; have := hb 3 (by omega); rw [limb3_val4 h0 h1 h2 h3] at this; exact this
        · unfold bitZ
          by_cases hz : 0 ≤ 64 * z + k
          · have hlt : val4 a0 a1 a2 a3 < 2 ^ (64 * z + k).toNat := Nat.lt_of_lt_of_le (val4_lt h0 h1 h2 h3) (Nat.pow_le_pow_right (by omega) (by omega))
            rw [Nat.testBit_lt_two_pow hlt]; simp
          · rw [decide_eq_false hz]; simp
theorem moved4 {a0 a1 a2 a3 : Int} (h0 : U64 a0) (h1 : U64 a1) (h2 : U64 a2) (h3 : U64 a3) (n j : Int) (hj : 0 ≤ j) :
    movedI (part4 a0 a1 a2 a3) n j = limb j.toNat (shiftZ (val4 a0 a1 a2 a3) n) :=
  moved_bits _ _ n j (part4_u64 h0 h1 h2 h3) (part4_bit h0 h1 h2 h3) hj
theorem part2_four (a0 a1 z : Int) : part2 a0 a1 z = part4 a0 a1 0 0 z := by
  unfold part2 part4; repeat' split
  all_goals rfl
theorem val2_four (a0 a1 : Int) : val4 a0 a1 0 0 = val2 a0 a1 := by
  unfold val4 val2
  omega
theorem moved2 {a0 a1 : Int} (h0 : U64 a0) (h1 : U64 a1) (n j : Int) (hj : 0 ≤ j) :
    movedI (part2 a0 a1) n j = limb j.toNat (shiftZ (val2 a0 a1) n) := by
  rw [← val2_four, ← moved4 h0 h1 u64_zero u64_zero n j hj]
  unfold movedI; rw [part2_four, part2_four]
theorem part2_bit {a0 a1 : Int} (h0 : U64 a0) (h1 : U64 a1) (z : Int) (k : Nat) (hk : k < 64) :
    (part2 a0 a1 z).toNat.testBit k = bitZ (val2 a0 a1) (64 * z + k) := by
  rw [← val2_four, ← part4_bit h0 h1 u64_zero u64_zero z k hk, part2_four]
theorem and_one {x : Int} (hx : U64 x) : bits .and .u64 x 1 = x % 2 := by
  obtain ⟨a, rfl⟩ := Int.eq_ofNat_of_zero_le hx.lo
  have ha : a < 2 ^ 64 := by have := hx.hi; omega
  have e : (BitVec.ofNat 64 a &&& BitVec.ofNat 64 1).toNat = a % 2 := by
    rw [BitVec.toNat_and, BitVec.toNat_ofNat, BitVec.toNat_ofNat, Nat.mod_eq_of_lt ha, Nat.mod_eq_of_lt (by omega), Nat.and_one_is_mod]
  show IntKind.u64.wrap ((BitVec.ofInt 64 ((a : Nat) : Int) &&& BitVec.ofInt 64 ((1 : Nat) : Int)).toNat : Nat) = _
  rw [BitVec.ofInt_natCast, BitVec.ofInt_natCast, e, wrap_u64 (by omega) (by omega)]
  omega
theorem bit_and {x : Int} (hx : U64 x) (k : Nat) : (bits .and .u64 (x / 2 ^ k) 1 == 1) = x.toNat.testBit k := by
  obtain ⟨a, rfl⟩ := Int.eq_ofNat_of_zero_le hx.lo
  have ha : a < 2 ^ 64 := by have := hx.hi; omega
  have e : (a : Int) / 2 ^ k = ((a / 2 ^ k : Nat) : Int) := by rw [Int.natCast_ediv, Int.natCast_pow]; rfl
  have hle : a / 2 ^ k ≤ a := Nat.div_le_self _ _
  rw [e, and_one ⟨Int.natCast_nonneg _, by omega⟩, Int.toNat_natCast, Nat.testBit_eq_decide_div_mod_eq, Bool.eq_iff_iff, beq_iff_eq, decide_eq_true_iff]
  omega

/-- a product of two parts (under a name: the walk stumbles over 'toNat') -/
@[irreducible] def mulI (x y : Int) : Nat := x.toNat * y.toNat
/-- 128 bits, and 256, as values -/
abbrev bitsV (R : Nat) : Value := .agg #[.int .u64 (limb 1 R), .int .u64 (limb 0 R)]
abbrev wideV (R : Nat) : Value := .agg #[.int .u64 (limb 0 R), .int .u64 (limb 1 R), .int .u64 (limb 2 R), .int .u64 (limb 3 R)]

/-- sums and differences in 128 bits, and in 256 -/
def add128 (A B : Nat) : Nat := (A + B) % 2 ^ 128
def sub128 (A B : Nat) : Nat := (A + 2 ^ 128 - B) % 2 ^ 128
def carry128 (A B : Nat) : Bool := decide (2 ^ 128 ≤ A + B)
def add256 (A B : Nat) : Nat := (A + B) % 2 ^ 256
def sub256 (A B : Nat) : Nat := (A + 2 ^ 256 - B) % 2 ^ 256
def carry256 (A B : Nat) : Bool := decide (2 ^ 256 ≤ A + B)
def ltB (x y : Nat) : Bool := decide (x < y)
def zeroB (x : Nat) : Bool := decide (x = 0)
/-- the order of two numbers, as -1, 0, 1 -/
def cmpI (x y : Int) : Int := if x < y then -1 else if y < x then 1 else 0
def cmpN (A B : Nat) : Int := cmpI A B
/-- a number that fits 128 bits, or 256 -/
structure W128 (A : Nat) : Prop where
  lt : A < 2 ^ 128
structure W256 (A : Nat) : Prop where
  lt : A < 2 ^ 256
theorem add256_w (A B : Nat) : W256 (add256 A B) := ⟨Nat.mod_lt _ (by omega)⟩
theorem limb_mod128 (i R : Nat) (h : i < 2) : limb i (R % 2 ^ 128) = limb i R := by
  have : i = 0 ∨ i = 1 := by omega
  rcases this with rfl | rfl <;> unfold limb <;> omega
theorem limb_mod256 (i R : Nat) (h : i < 4) : limb i (R % 2 ^ 256) = limb i R := by
  have : i = 0 ∨ i = 1 ∨ i = 2 ∨ i = 3 := by omega
  rcases this with rfl | rfl | rfl | rfl <;> unfold limb <;> omega
/-- two parts, or four, make up a number -/
structure IsBits (a1 a0 : Int) (A : Nat) : Prop where
  w : W128 A
  hi : a1 = limb 1 A
  lo : a0 = limb 0 A
structure IsWide (a0 a1 a2 a3 : Int) (A : Nat) : Prop where
  w : W256 A
  e0 : a0 = limb 0 A
  e1 : a1 = limb 1 A
  e2 : a2 = limb 2 A
  e3 : a3 = limb 3 A
theorem IsBits.of {A : Nat} (h : W128 A) : IsBits (limb 1 A) (limb 0 A) A := ⟨h, rfl, rfl⟩
theorem IsWide.of {A : Nat} (h : W256 A) : IsWide (limb 0 A) (limb 1 A) (limb 2 A) (limb 3 A) A := ⟨h, rfl, rfl, rfl, rfl⟩
theorem IsBits.val {a1 a0 : Int} (h1 : U64 a1) (h0 : U64 a0) : IsBits a1 a0 (val2 a0 a1) := by
  refine ⟨⟨val2_lt h0 h1⟩, ?_, ?_⟩
  · rw [← val2_four, limb1_val4 h0 h1 u64_zero u64_zero]
  · rw [← val2_four, limb0_val4 h0 h1 u64_zero u64_zero]
theorem IsWide.val {a0 a1 a2 a3 : Int} (h0 : U64 a0) (h1 : U64 a1) (h2 : U64 a2) (h3 : U64 a3) : IsWide a0 a1 a2 a3 (val4 a0 a1 a2 a3) :=
  ⟨⟨val4_lt h0 h1 h2 h3⟩, (limb0_val4 h0 h1 h2 h3).symm, (limb1_val4 h0 h1 h2 h3).symm, (limb2_val4 h0 h1 h2 h3).symm, (limb3_val4 h0 h1 h2 h3).symm⟩
theorem IsBits.u1 {a1 a0 : Int} {A : Nat} (h : IsBits a1 a0 A) : U64 a1 := h.hi ▸ limb_u64 _ _
theorem IsBits.u0 {a1 a0 : Int} {A : Nat} (h : IsBits a1 a0 A) : U64 a0 := h.lo ▸ limb_u64 _ _
theorem IsBits.v {a1 a0 : Int} {A : Nat} (h : IsBits a1 a0 A) : val2 a0 a1 = A := by rw [h.hi, h.lo, val2_limb A h.w.lt]
theorem IsWide.u {a0 a1 a2 a3 : Int} {A : Nat} (h : IsWide a0 a1 a2 a3 A) : U64 a0 ∧ U64 a1 ∧ U64 a2 ∧ U64 a3 :=
  ⟨h.e0 ▸ limb_u64 _ _, h.e1 ▸ limb_u64 _ _, h.e2 ▸ limb_u64 _ _, h.e3 ▸ limb_u64 _ _⟩
theorem IsWide.v {a0 a1 a2 a3 : Int} {A : Nat} (h : IsWide a0 a1 a2 a3 A) : val4 a0 a1 a2 a3 = A := by rw [h.e0, h.e1, h.e2, h.e3, val4_limb A h.w.lt]
theorem moved4_at {a0 a1 a2 a3 : Int} (h0 : U64 a0) (h1 : U64 a1) (h2 : U64 a2) (h3 : U64 a3) {n q : Int} (j s : Nat) (hq : q = j - n / 64) (hs : n % 64 = s) (_hs64 : s < 64) :
    bits .or .u64 (IntKind.u64.wrap (part4 a0 a1 a2 a3 q * 2 ^ s)) (part4 a0 a1 a2 a3 (q - 1) / 2 / 2 ^ (63 - s)) = limb j (shiftZ (val4 a0 a1 a2 a3) n) := by
  have e := moved4 h0 h1 h2 h3 n (j : Int) (by omega)
  unfold movedI at e
  rw [hs, Int.toNat_natCast, show (63 - (s : Int)).toNat = 63 - s from by omega, ← hq, Int.toNat_natCast] at e
  exact e
theorem moved2_at {a0 a1 : Int} (h0 : U64 a0) (h1 : U64 a1) {n q : Int} (j s : Nat) (hq : q = j - n / 64) (hs : n % 64 = s) (_hs64 : s < 64) :
    bits .or .u64 (IntKind.u64.wrap (part2 a0 a1 q * 2 ^ s)) (part2 a0 a1 (q - 1) / 2 / 2 ^ (63 - s)) = limb j (shiftZ (val2 a0 a1) n) := by
  have e := moved2 h0 h1 n (j : Int) (by omega)
  unfold movedI at e
  rw [hs, Int.toNat_natCast, show (63 - (s : Int)).toNat = 63 - s from by omega, ← hq, Int.toNat_natCast] at e
  exact e
theorem shiftZ_far {A : Nat} (m : Nat) (hA : A < 2 ^ (64 * m)) {n : Int} (hn : n ≤ -(64 * m)) : shiftZ A n = 0 := by
  unfold shiftZ
  by_cases h : 0 ≤ n
  · have hm : m = 0 := by omega
    subst hm
    have : A = 0 := by simp at hA; exact hA
    subst this; simp
  · rw [if_neg h]
    exact Nat.div_eq_of_lt (Nat.lt_of_lt_of_le hA (Nat.pow_le_pow_right (by omega) (by omega)))
theorem limb_far {A : Nat} (m i : Nat) (hi : i < m) {n : Int} (hn : 64 * m ≤ n) : limb i (shiftZ A n) = 0 := by
  unfold shiftZ limb
  rw [if_pos (by omega)]
  obtain ⟨k, e⟩ : ∃ k, n.toNat = 64 * i + 64 + k := ⟨n.toNat - 64 * i - 64, by omega⟩
  have e2 : A * 2 ^ n.toNat = 2 ^ (64 * i) * (2 ^ 64 * (A * 2 ^ k)) := by
    rw [e, Nat.pow_add, Nat.pow_add]
    generalize 2 ^ (64 * i) = x; generalize 2 ^ 64 = y; generalize 2 ^ k = z
    ac_rfl
  rw [e2, Nat.mul_div_cancel_left _ (Nat.two_pow_pos _), Nat.mul_mod_right]; rfl
theorem wrap_i64_small (s : Nat) (h : s < 64) : IntKind.i64.wrap (s : Int) = s := by
  have h1 : (s : Int) % 2 ^ 64 = s := by omega
  unfold IntKind.wrap
  simp only [IntKind.bits, h1]
  rw [if_neg (by simp [IntKind.signed]; omega)]
theorem and63 (n : Int) : bits .and .i64 n 63 = n % 64 := by
  obtain ⟨s, hs⟩ : ∃ s : Nat, n % 64 = s := ⟨(n % 64).toNat, by omega⟩
  have e : (BitVec.ofInt 64 n &&& BitVec.ofNat 64 63).toNat = s := by
    rw [BitVec.toNat_and, BitVec.toNat_ofNat, BitVec.toNat_ofInt, show (63 % 2 ^ 64 : Nat) = 2 ^ 6 - 1 from rfl, Nat.and_two_pow_sub_one_eq_mod]
    omega
  show IntKind.i64.wrap ((BitVec.ofInt 64 n &&& BitVec.ofInt 64 ((63 : Nat) : Int)).toNat : Nat) = _
  rw [BitVec.ofInt_natCast, e, wrap_i64_small s (by omega), hs]
end Go.Proofs.YtpfoifflfgiaoaaGreatDoor
namespace Go.Proofs.YtpfoifflfgiaoaaGreatDoor

theorem cmp_lt {A B : Nat} (h : A < B) : cmpN A B = -1 := by unfold cmpN cmpI; rw [if_pos (by omega)]
theorem cmp_gt {A B : Nat} (h : B < A) : cmpN A B = 1 := by unfold cmpN cmpI; rw [if_neg (by omega), if_pos (by omega)]
theorem cmp_eq (A : Nat) : cmpN A A = 0 := by unfold cmpN cmpI; rw [if_neg (by omega), if_neg (by omega)]
theorem cmp_le {A B : Nat} : cmpN A B ≤ 0 ↔ A ≤ B := by unfold cmpN cmpI; split <;> (try split) <;> omega
theorem cmp_neg {A B : Nat} : cmpN A B < 0 ↔ A < B := by unfold cmpN cmpI; split <;> (try split) <;> omega
end Go.Proofs.YtpfoifflfgiaoaaGreatDoor
namespace Go.Proofs.YtpfoifflfgiaoaaGreatDoor
open Go.RowKit

def dv (d : Nat) : Value := .int .u32 (d : Int)
/-- a slice that reads as these digits -/
def IsL (w : World) (v : Value) (l : List Nat) : Prop :=
  DigL l ∧ ∃ (ad : Option Addr) (c : Nat), v = .slice ad l.length c ∧ l.length ≤ c ∧
    (0 < l.length → ∃ b o, ad = some ⟨b, o, none⟩ ∧ b < w.heap.size ∧ ∀ (j d : Nat), l[j]? = some d → w.cell? ⟨b, o + j, none⟩ = some (.int .u32 (d : Int)))
/-- a slice that reads as a number's digits -/
def IsN (w : World) (v : Value) (A : Nat) : Prop := IsL w v (digs A)

theorem IsL.call {w w' : World} {v : Value} {l : List Nat} (h : IsL w v l) (hb : Below w.heap.size w w') : IsL w' v l := by
  obtain ⟨hd, ad, c, rfl, hc, hr⟩ := h
  refine ⟨hd, ad, c, rfl, hc, fun h0 => ?_⟩
  obtain ⟨b, o, e, hlt, hcell⟩ := hr h0
  exact ⟨b, o, e, Nat.lt_of_lt_of_le hlt hb.size, fun j d hj => (hb.cell (p := ⟨b, o + j, none⟩) hlt).trans (hcell j d hj)⟩
theorem IsN.call {w w' : World} {v : Value} {A : Nat} (h : IsN w v A) (hb : Below w.heap.size w w') : IsN w' v A := IsL.call h hb
theorem IsL.alloc {w : World} {v : Value} {l : List Nat} (h : IsL w v l) (o : Obj) : IsL (w.alloc o) v l := h.call ((Below.refl _ _).alloc (Nat.le_refl _) o)
theorem IsN.alloc {w : World} {v : Value} {A : Nat} (h : IsN w v A) (o : Obj) : IsN (w.alloc o) v A := IsL.alloc h o
theorem IsN.drew {w : World} {v : Value} {A : Nat} (h : IsN w v A) : IsN w.drew v A := h
theorem IsN.kept {w w' : World} {v : Value} {A : Nat} (h : IsN w v A) (hk : Kept w.heap.size w w') : IsN w' v A := IsL.call h hk.below

def slen : Value → Nat
  | .slice _ n _ => n
  | _ => 0

set_option maxRecDepth 100000 in
set_option maxHeartbeats 4000000 in
theorem Trim_any {v : Value} {l : List Nat} (w : World) (h : IsL w v l) (hl : l.length ≤ 65536) :
    Calls Tryz.prog 75 #[v] w fun e w' => ∃ v', e = .returned v' ∧ IsN w v' (valL l) ∧ w = w' := by
  obtain ⟨hd, ad, c, rfl, hc, hr⟩ := h
  have HL := Lib.hid hl
  have HC := Lib.hid hc
  have HR := Lib.hid hr
  clear hr hc
  go_enter Tryz.func75, Tryz.ntmps75
  go_wp2
  go_loop [0] (fun a => ∃ n : Nat, n ≤ l.length ∧ a = .slice ad n c ∧ valL (l.take n) = valL l) (fun a => slen a)
  case atStart => exact ⟨l.length, Nat.le_refl _, rfl, by rw [List.take_length]⟩
  case round =>
    obtain ⟨n, hn, rfl, hv⟩ := hrel
    have HV := Lib.hid hv
    clear hv
    rcases n with _ | k
    · go_wp2
      go_ret
      have hv0 : valL l = 0 := by have := HV.out; rw [List.take_zero] at this; rw [← this]; rfl
      refine ⟨_, rfl, ?_, rfl⟩
      rw [hv0]
      unfold IsN
      rw [digs_zero]
      exact ⟨DigL.nil, ad, c, rfl, Nat.zero_le _, fun h0 => absurd h0 (by simp)⟩
    · obtain ⟨b, o, rfl, hlt, hcell⟩ := HR.out (by omega)
      obtain ⟨d, hdk⟩ : ∃ d, l[k]? = some d := ⟨l[k]'(by omega), List.getElem?_eq_getElem (by omega)⟩
      have hck := hcell k d hdk
      have hkc : k + 1 ≤ c := by have := HC.out; omega
      have HD := Lib.hid hdk
      have HCL := Lib.hid hcell
      clear hdk hcell
      by_cases h0 : d = 0
      · subst h0
        go_wp2
        go_round
        case rel => exact ⟨k, by omega, rfl, by rw [← HV.out]; exact (valL_take_drop HD.out).symm⟩
        case measure => simp [slen]
      · have hne : ((d : Int) == 0) = false := by rw [beq_eq_false_iff_ne]; omega
        go_wp2
        refine bodyPost_ret (v := .slice (some ⟨b, o, none⟩) (k + 1) c) (by simp [results, Tryz.results75, go_sem]) rfl ?_
        have e : digs (valL l) = l.take (k + 1) := by rw [← HV.out]; exact trim_end hd (by omega) HD.out h0
        have hlen : (l.take (k + 1)).length = k + 1 := by rw [List.length_take]; omega
        refine ⟨_, rfl, ?_, rfl⟩
        unfold IsN
        rw [e]
        refine ⟨hd.take _, _, c, by rw [hlen], by omega, fun _ => ⟨b, o, rfl, hlt, fun j x hj => HCL.out j x ?_⟩⟩
        have hj2 : j < (l.take (k + 1)).length := (List.getElem?_eq_some_iff.1 hj).1
        rw [List.getElem?_take_of_lt (by omega)] at hj
        exact hj
theorem IsL.new {w : World} {t : TypeId} (l : List Nat) (hd : DigL l) : IsL (w.alloc (.cells (l.map dv).toArray t)) (.slice (some ⟨w.heap.size, 0, none⟩) l.length l.length) l :=
  ⟨hd, _, _, rfl, Nat.le_refl _, fun _ => ⟨w.heap.size, 0, rfl, by simp, fun j d hj => by simp [hj, dv]⟩⟩
theorem IsL.newAt {w : World} {t : TypeId} {b n : Nat} {cs : Array Value} (l : List Nat) (hd : DigL l) (hb : b = w.heap.size) (hn : n = l.length) (hc : cs = (l.map dv).toArray) :
    IsL (w.alloc (.cells cs t)) (.slice (some ⟨b, 0, none⟩) n n) l := by
  subst hb; subst hn; subst hc; exact IsL.new l hd
theorem IsN.open {w : World} {v : Value} {A : Nat} (h : IsN w v A) : ∃ (ad : Option Addr) (c : Nat), v = .slice ad (lenN A) c ∧ lenN A ≤ c ∧
    (0 < lenN A → ∃ b o, ad = some ⟨b, o, none⟩ ∧ b < w.heap.size ∧ ∀ j, j < lenN A → w.cell? ⟨b, o + j, none⟩ = some (.int .u32 (dig j A : Nat))) := by
  obtain ⟨_, ad, c, e, hc, hr⟩ := h
  refine ⟨ad, c, e, hc, fun h0 => ?_⟩
  obtain ⟨b, o, e2, hlt, hcell⟩ := hr h0
  exact ⟨b, o, e2, hlt, fun j hj => hcell j _ (digs_at hj)⟩

set_option maxRecDepth 100000 in
set_option maxHeartbeats 4000000 in
theorem digit_any {v : Value} {A : Nat} (i : Nat) (w : World) (h : IsN w v A) (hl : lenN A ≤ 65536) (hi : i ≤ 1000000) :
    Calls Tryz.prog 76 #[v, .int .i64 (i : Int)] w fun e w' => e = .returned (.int .u32 (dig i A : Nat)) ∧ w = w' := by
  obtain ⟨ad, c, rfl, hc, hr⟩ := h.open
  by_cases hlt : i < lenN A
  · obtain ⟨b, o, rfl, hb, hcell⟩ := hr (by omega)
    have hck := hcell i hlt
    clear hcell hr
    go_enter Tryz.func76, Tryz.ntmps76
    go_wp2
    go_ret
    exact ⟨rfl, rfl⟩
  · have h0 := dig_beyond (A := A) (i := i) (by omega)
    rw [h0]
    clear hr h0
    go_enter Tryz.func76, Tryz.ntmps76
    go_wp2
    go_ret
    exact ⟨rfl, rfl⟩

set_option maxRecDepth 100000 in
set_option maxHeartbeats 4000000 in
theorem refOf_any (x : Nat) (hx : x < 2 ^ 64) (w : World) :
    Calls Tryz.prog 28 #[.int .u64 (x : Int)] w fun e w' => ∃ v, e = .returned v ∧ IsN w' v x ∧ Below w.heap.size w w' := by
  have hd : DigL [x % 4294967296, x / 4294967296] := fun d h => by
    simp only [List.mem_cons, List.not_mem_nil, or_false] at h
    rcases h with rfl | rfl <;> omega
  have hv : valL [x % 4294967296, x / 4294967296] = x := by simp only [valL]; omega
  have HD := Lib.hid hd
  have HV := Lib.hid hv
  clear hd hv
  go_enter Tryz.func28, Tryz.ntmps28
  go_wp2_with fail
  refine (Trim_any (l := [x % 4294967296, x / 4294967296]) _ (IsL.newAt _ HD.out rfl rfl rfl) (by simp)).mono ?_
  rintro e w' ⟨v, rfl, hN, rfl⟩
  go_wp2
  refine bodyPost_ret (v := v) (by simp [results, Tryz.results28, go_sem]) rfl ⟨v, rfl, by rw [HV.out] at hN; exact hN, ?_⟩
  exact (Below.refl _ _).alloc (Nat.le_refl _) _

theorem limb_nat (i A : Nat) : limb i A = ((A / 2 ^ (64 * i) % 2 ^ 64 : Nat) : Int) := by unfold limb; rfl
set_option maxRecDepth 100000 in
set_option maxHeartbeats 4000000 in
theorem Big_any {A : Nat} (hA : W128 A) (w : World) :
    Calls Tryz.prog 34 #[bitsV A] w fun e w' => ∃ v, e = .returned v ∧ IsN w' v A ∧ Below w.heap.size w w' := by
  obtain ⟨y, hy⟩ : ∃ y : Nat, limb 0 A = y := ⟨_, limb_nat 0 A⟩
  obtain ⟨z, hz⟩ : ∃ z : Nat, limb 1 A = z := ⟨_, limb_nat 1 A⟩
  have hA2 := hA.lt
  have hyz : y + z * 2 ^ 64 = A ∧ y < 2 ^ 64 ∧ z < 2 ^ 64 := by
    rw [limb_nat] at hy hz; omega
  have hd : DigL [y % 4294967296, y / 4294967296, z % 4294967296, z / 4294967296] := fun d h => by
    simp only [List.mem_cons, List.not_mem_nil, or_false] at h
    rcases h with rfl | rfl | rfl | rfl <;> omega
  have hv : valL [y % 4294967296, y / 4294967296, z % 4294967296, z / 4294967296] = A := by simp only [valL]; omega
  obtain ⟨_, y1, z1⟩ := hyz
  have HD := Lib.hid hd
  have HV := Lib.hid hv
  clear hd hv
  rw [bitsV, hy, hz]
  clear hy hz
  go_enter Tryz.func34, Tryz.ntmps34
  go_wp2_with fail
  refine (Trim_any (l := [y % 4294967296, y / 4294967296, z % 4294967296, z / 4294967296]) _ (IsL.newAt _ HD.out (by simp only [World.size_alloc]) rfl rfl) (by simp)).mono ?_
  rintro e w' ⟨v, rfl, hN, rfl⟩
  go_wp2
  refine bodyPost_ret (v := v) (by simp [results, Tryz.results34, go_sem]) rfl ⟨v, rfl, by rw [HV.out] at hN; exact hN, ?_⟩
  exact ((Below.refl _ _).alloc (Nat.le_refl _) _).alloc (by simp) _

theorem dig_pair (i A : Nat) : ((dig (2 * i) A : Nat) : Int) + ((dig (2 * i + 1) A : Nat) : Int) * 4294967296 = limb i A := by
  rw [limb_nat]
  unfold dig
  rw [show 32 * (2 * i) = 64 * i by omega, show 32 * (2 * i + 1) = 64 * i + 32 by omega, Nat.pow_add, ← Nat.div_div_eq_div_mul]
  generalize A / 2 ^ (64 * i) = q
  omega
set_option maxRecDepth 100000 in
set_option maxHeartbeats 4000000 in
theorem Bits_any {v : Value} {A : Nat} (w : World) (h : IsN w v A) (hl : lenN A ≤ 65536) :
    Calls Tryz.prog 32 #[v] w fun e w' => e = .returned (bitsV A) ∧ Below w.heap.size w w' := by
  have d0 := dig_lt 0 A
  have d1 := dig_lt 1 A
  have d2 := dig_lt 2 A
  have d3 := dig_lt 3 A
  have HP0 := Lib.hid (show ((dig 0 A : Nat) : Int) + ((dig 1 A : Nat) : Int) * 4294967296 = limb 0 A from dig_pair 0 A)
  have HP1 := Lib.hid (show ((dig 2 A : Nat) : Int) + ((dig 3 A : Nat) : Int) * 4294967296 = limb 1 A from dig_pair 1 A)
  go_enter Tryz.func32, Tryz.ntmps32
  go_wp2_with fail
  refine (digit_any 0 _ (h.alloc _) hl (by omega)).mono ?_
  rintro e w' ⟨rfl, rfl⟩
  go_wp2_with fail
  refine (digit_any 1 _ (h.alloc _) hl (by omega)).mono ?_
  rintro e w' ⟨rfl, rfl⟩
  go_wp2_with fail
  refine (digit_any 2 _ (h.alloc _) hl (by omega)).mono ?_
  rintro e w' ⟨rfl, rfl⟩
  go_wp2_with fail
  refine (digit_any 3 _ (h.alloc _) hl (by omega)).mono ?_
  rintro e w' ⟨rfl, rfl⟩
  go_wp2
  refine bodyPost_ret (v := .agg #[.int .u64 (((dig 2 A : Nat) : Int) + ((dig 3 A : Nat) : Int) * 4294967296), .int .u64 (((dig 0 A : Nat) : Int) + ((dig 1 A : Nat) : Int) * 4294967296)]) (by simp [results, Tryz.results32, go_sem]) rfl ⟨?_, ?_⟩
  · rw [bitsV, ← HP0.out, ← HP1.out]
  · refine Kept.below ?_; repeat (first | with_reducible exact Kept.refl _ | with_reducible refine Kept.alloc ?_ _ | with_reducible refine Kept.drew ?_ | with_reducible refine Kept.setCell ?_ (by simp only [World.size_alloc, World.size_setCell, World.size_drew]; omega) _)
end Go.Proofs.YtpfoifflfgiaoaaGreatDoor
namespace Go.Proofs.YtpfoifflfgiaoaaGreatDoor
open Go Go.RowKit

inductive Plan where
  | known (V : Value)
  | num (A : Nat)
section
variable {P : Program} {ops : Array Oper} {Q : Exit → Act → World → Prop} {md : Region.Mode} {S : World → Prop} {t0 : Nat} {pl : List Plan}

theorem layM_slot2 {m : Nat → Bool} {ρ ρ' : Nat → Value} (t : Nat) : ∀ (n : Nat) (a : Act), (∀ j o, j < n → ops[j]? = some o → o.dst = some t → ρ j = ρ' j) → (layM ops m ρ n a).tmps[t]? = (layM ops m ρ' n a).tmps[t]?
  | 0, _, _ => rfl
  | n + 1, a, h => by
    have ih := layM_slot2 (m := m) (ρ := ρ) (ρ' := ρ') t n a (fun j o hj => h j o (by omega))
    have hs : (layM ops m ρ n a).tmps.size = (layM ops m ρ' n a).tmps.size := by rw [layM_size, layM_size]
    unfold layM
    cases ho : ops[n]? with
    | none => simp only []; split <;> exact ih
    | some o =>
      simp only []
      split
      · by_cases hd : o.dst = some t
        · rw [put_get, put_get, hs, ih, h n o (by omega) ho hd]
        · rw [put_get, if_neg (fun h => hd h.1), put_get, if_neg (fun h => hd h.1)]; exact ih
      · exact ih

/-! one operation -/
variable {o : Oper} {a : Act} {w : World} {k : Nat}
end
end Go.Proofs.YtpfoifflfgiaoaaGreatDoor
