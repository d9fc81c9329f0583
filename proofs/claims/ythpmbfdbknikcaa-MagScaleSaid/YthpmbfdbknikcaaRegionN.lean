/- A region that draws its order, whose operations' values are known, or are slices that read as known numbers: as a plan, one row an operation. -/
import Derived.Test.YthpmbfdbknikcaaRegion4
import Derived.Test.YthpmbfdbknikcaaRef
set_option linter.unusedVariables false
set_option linter.unusedSimpArgs false
namespace Go.Proofs.Ythpmbfdbknikcaa
open Go Go.RowKit

inductive Plan where
  | known (V : Value)
  | num (A : Nat)
def planOf (pl : List Plan) (j : Nat) (v : Value) (w : World) : Prop := match pl[j]? with
  | some (.known V) => v = V
  | some (.num A) => IsN w v A
  | none => True
theorem plan_stable (pl : List Plan) (j : Nat) (v : Value) : Stable (planOf pl j v) := fun w w' h hb => by
  unfold planOf at *
  cases hp : pl[j]? with
  | none => trivial
  | some p =>
    rw [hp] at h
    cases p with
    | known V => exact h
    | num A => exact IsN.call h hb
/-- the value that the walk lays into the frame -/
def planV (pl : List Plan) (ρ : Nat → Value) (j : Nat) : Value := match pl[j]? with
  | some (.known V) => V
  | _ => ρ j
theorem planV_eq {pl : List Plan} {ρ : Nat → Value} {j : Nat} {w : World} (h : planOf pl j (ρ j) w) : planV pl ρ j = ρ j := by
  unfold planOf at h
  unfold planV
  cases hp : pl[j]? with
  | none => rfl
  | some p =>
    rw [hp] at h
    cases p with
    | known V => exact h.symm
    | num A => rfl

section
variable {P : Program} {ops : Array Oper} {Q : Exit → Act → World → Prop} {md : Region.Mode} {S : World → Prop} {t0 : Nat} {pl : List Plan}

theorem layM_slot2 {m : Nat → Bool} {ρ ρ' : Nat → Value} (t : Nat) : ∀ (n : Nat) (a : Act), (∀ j o, j < n → ops[j]? = some o → o.dst = some t → ρ j = ρ' j) → (layM ops m ρ n a).tmps[t]? = (layM ops m ρ' n a).tmps[t]?
  | 0, _, _ => rfl
  | n + 1, a, h => by
    have ih := layM_slot2 (m := m) (ρ := ρ) (ρ' := ρ') t n a (fun j o hj => h j o (by omega))
    have hs : (layM ops m ρ n a).tmps.size = (layM ops m ρ' n a).tmps.size := by rw [layM_size, layM_size]
    unfold layM
    cases ho : ops[n]? with
    | none => simp only []; split <;> exact ih
    | some o =>
      simp only []
      split
      · by_cases hd : o.dst = some t
        · rw [put_get, put_get, hs, ih, h n o (by omega) ho hd]
        · rw [put_get, if_neg (fun h => hd h.1), put_get, if_neg (fun h => hd h.1)]; exact ih
      · exact ih

/-- the walk, in the order of the text: number k, and those behind it; known values stand in the frame -/
def wpHN (P : Program) (md : Region.Mode) (ops : Array Oper) (S : World → Prop) (t0 : Nat) (pl : List Plan) (ρ : Nat → Value) (L : Act → World → Prop) : Nat → List Oper → Act → Prop
  | _, [], a => ∀ w, S w → (∀ j, j < t0 → planOf pl j (ρ j) w) → L a w
  | k, o :: rest, a => (∀ w, S w → (∀ j, j < t0 → waitsOn md o j = true → planOf pl j (ρ j) w) → StepR P ops o a w (planOf pl k)) ∧ wpHN P md ops S t0 pl ρ L (k + 1) rest (a.put o.dst (planV pl ρ k))
theorem wpHN_spec {ρ : Nat → Value} {L : Act → World → Prop} : ∀ (l : List Oper) (k : Nat) (a0 : Act), (∀ j, j < l.length → l[j]? = ops[k + j]?) → k + l.length = t0 →
    wpHN P md ops S t0 pl ρ L k l (layM ops (fun _ => true) (planV pl ρ) k a0) →
      (∀ i o, ops[i]? = some o → k ≤ i → i < t0 → ∀ w, S w → (∀ j, j < t0 → waitsOn md o j = true → planOf pl j (ρ j) w) → StepR P ops o (layM ops (fun _ => true) (planV pl ρ) i a0) w (planOf pl i)) ∧
      (∀ w, S w → (∀ j, j < t0 → planOf pl j (ρ j) w) → L (layM ops (fun _ => true) (planV pl ρ) t0 a0) w)
  | [], k, a0, _, hk, h => by
    have : k = t0 := by simpa using hk
    subst this
    exact ⟨fun i o _ h1 h2 => by omega, h⟩
  | o :: l, k, a0, hl, hk, h => by
    have h0 : ops[k]? = some o := by simpa using (hl 0 (by simp)).symm
    have hl' : ∀ j, j < l.length → l[j]? = ops[k + 1 + j]? := fun j hj => by have := hl (j + 1) (by simp; omega); simpa [Nat.add_assoc, Nat.add_comm 1 j] using this
    simp only [List.length_cons] at hk
    have e : (layM ops (fun _ => true) (planV pl ρ) k a0).put o.dst (planV pl ρ k) = layM ops (fun _ => true) (planV pl ρ) (k + 1) a0 := by
      conv => rhs; unfold layM
      simp [h0]
    obtain ⟨h1, h2⟩ := h
    rw [e] at h2
    obtain ⟨h3, h4⟩ := wpHN_spec l (k + 1) a0 hl' (by omega) h2
    refine ⟨fun i oi hi hki hit => ?_, h4⟩
    by_cases e2 : i = k
    · subst e2
      have : oi = o := Option.some.inj (hi.symm.trans h0)
      subst this
      exact h1
    · exact h3 i oi hi (by omega) hit

theorem num_any {a : Act} {w : World} {l : List Oper} (t0 : Nat) (S : World → Prop) (pl : List Plan) (hB : uniRB l.toArray t0 = true) (HS : Stable S) (hS : S w.drew)
    (h : ∀ ρ, wpHN P .any l.toArray S t0 pl ρ (wpList P l.toArray Q (l.drop t0)) 0 (l.take t0) a) : wpAny P .any l.toArray Q l.toArray.size (Array.replicate l.toArray.size false) a w.drew := by
  have hB0 := hB
  simp only [uniRB, Bool.and_eq_true, decide_eq_true_eq] at hB
  obtain ⟨⟨⟨⟨hsel, ht0⟩, hT⟩, hok⟩, hseq⟩ := hB
  have htl : (l.take t0).length = t0 := by simp at ht0 ⊢; omega
  have inv0 : HeadInv .any l.toArray t0 (Array.replicate l.toArray.size false) :=
    ⟨by simp, fun j oj _ hl => (by rw [getD_replicate_false] at hl; cases hl), fun t _ ht => getD_in (by simpa using ht) (getD_replicate_false _ _)⟩
  have spec := fun ρ => wpHN_spec (P := P) (md := .any) (ops := l.toArray) (S := S) (t0 := t0) (pl := pl) (ρ := ρ) (L := wpList P l.toArray Q (l.drop t0)) (l.take t0) 0 a (fun j hj => by
    have hj' : j < t0 := by rw [htl] at hj; exact hj
    simp [hj']) (by omega) (h ρ)
  have := wpR_sound (P := P) (Q := Q) (md := .any) (S := S) (Fact := planOf pl) (t0 := t0) HS (plan_stable pl) hok hT hsel hseq ht0 a
    (fun i o hi hit ρ w hS' hd => by
      have h1 := (spec ρ).1 i o hi (by omega) hit w hS' hd
      obtain ⟨o', ho', hlow, hdep⟩ := depB_spec hok hit
      have : o' = o := Option.some.inj (ho'.symm.trans hi)
      subst this
      have slots : ∀ t ∈ o'.looksAt l.toArray, (layM l.toArray (fun _ => true) (planV pl ρ) i a).tmps[t]? = (layM l.toArray (fun _ => true) ρ i a).tmps[t]? := fun t ht =>
        layM_slot2 t i a fun j oj hj hoj hd2 => by
          obtain ⟨oj', hoj', h5⟩ := hdep j (by omega)
          have : oj' = oj := Option.some.inj (hoj'.symm.trans hoj)
          subst this
          exact planV_eq (hd j (by omega) ((h5 t hd2).1 ht))
      unfold StepR at h1 ⊢
      rw [← exec_slots (fun cs b => Region.noSelect_spec hsel i o' cs b hi) slots, ← wanted_slots slots]
      exact h1)
    (fun ρ w hS' hf => by
      have h1 := (spec ρ).2 w hS' hf
      rw [layM_congr t0 a (fun _ _ => rfl) (fun j hj _ => planV_eq (hf j hj))] at h1
      exact h1)
    t0 (Array.replicate l.toArray.size false) (fun _ => undef) w.drew inv0 (cntU_all t0) hS (fun j hj hl => by rw [getD_replicate_false] at hl; cases hl)
  rw [layM_none t0 a (fun j _ => getD_replicate_false _ _), show t0 + (l.toArray.size - t0) = l.toArray.size by omega] at this
  exact this
/-- THE REGION, anywhere -/
theorem wp_region_num {id : Nat} {a : Act} {w : World} {l : List Oper} (t0 : Nat) (S : World → Prop) (pl : List Plan) (hm : P.follows .mixedOrders = true) (hB : uniRB l.toArray t0 = true) (HS : Stable S) (hS : S w.drew)
    (h : ∀ ρ, wpHN P .any l.toArray S t0 pl ρ (wpList P l.toArray Q (l.drop t0)) 0 (l.take t0) a) : (Code.region id l.toArray true).wp P Q a w :=
  wp_region_any hm (num_any t0 S pl hB HS hS h)

/-! one operation -/
variable {o : Oper} {a : Act} {w : World} {k : Nat}
theorem n_val {V : Value} (hp : pl[k]? = some (.known V)) (hw : Region.wanted o (yielded ops a.tmps) = true) (hy : (execOp a.eval o).run P w = .ok (.value V) w) : StepR P ops o a w (planOf pl k) :=
  .inl ⟨hw, .inl ⟨V, w, hy, by unfold planOf; rw [hp], Below.refl _ _⟩⟩
theorem n_num {A : Nat} {u : Value} (hp : pl[k]? = some (.num A)) (hw : Region.wanted o (yielded ops a.tmps) = true) (hy : (execOp a.eval o).run P w = .ok (.value u) w) (hN : IsN w u A) : StepR P ops o a w (planOf pl k) :=
  .inl ⟨hw, .inl ⟨u, w, hy, by unfold planOf; rw [hp]; exact hN, Below.refl _ _⟩⟩
theorem n_skip (hp : pl[k]? = some (.known undef)) (hw : Region.wanted o (yielded ops a.tmps) = false) : StepR P ops o a w (planOf pl k) :=
  .inr ⟨hw, by unfold planOf; rw [hp]⟩
theorem n_call {V : Value} (f : FuncId) (args : Array Value) (hp : pl[k]? = some (.known V)) (hw : Region.wanted o (yielded ops a.tmps) = true) (hy : (execOp a.eval o).run P w = .ok (.enter f args) w)
    (hc : Calls P f args w fun e w' => e = .returned V ∧ Below w.heap.size w w') : StepR P ops o a w (planOf pl k) :=
  .inl ⟨hw, .inr ⟨f, args, hy, hc.mono fun e w' ⟨he, hb⟩ => ⟨V, he, by unfold planOf; rw [hp], hb⟩⟩⟩
theorem n_callN {A : Nat} (f : FuncId) (args : Array Value) (hp : pl[k]? = some (.num A)) (hw : Region.wanted o (yielded ops a.tmps) = true) (hy : (execOp a.eval o).run P w = .ok (.enter f args) w)
    (hc : Calls P f args w fun e w' => ∃ v, e = .returned v ∧ IsN w' v A ∧ Below w.heap.size w w') : StepR P ops o a w (planOf pl k) :=
  .inl ⟨hw, .inr ⟨f, args, hy, hc.mono fun e w' ⟨v, he, hN, hb⟩ => ⟨v, he, by unfold planOf; rw [hp]; exact hN, hb⟩⟩⟩
end
end Go.Proofs.Ythpmbfdbknikcaa
