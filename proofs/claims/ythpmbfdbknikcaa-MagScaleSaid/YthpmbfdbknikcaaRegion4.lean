/- A region that draws its order, whose operations' values are known by a FACT each (a slice that reads as a number, say): calls that make memory and answer a pointer into it, new variables, reads; behind them stores, one by one. Whatever the order: at the end every fact holds of its value. -/
import Derived.Test.YthpmbfdbknikcaaRegion2
set_option linter.unusedVariables false
set_option linter.unusedSimpArgs false
namespace Go.Proofs.Ythpmbfdbknikcaa
open Go Go.RowKit

section
variable {P : Program} {ops : Array Oper} {Q : Exit → Act → World → Prop} {md : Region.Mode} {S : World → Prop} {t0 : Nat} {Fact : Nat → Value → World → Prop}

/-- does the operation wait for number k? -/
def waitsOn (md : Region.Mode) (o : Oper) (k : Nat) : Bool := o.after.toList.any fun e => Region.binds md e && (e.on == k)
theorem waitsOn_spec {o : Oper} {k : Nat} (h : waitsOn md o k = true) : ∃ e ∈ o.after, Region.binds md e = true ∧ e.on = k := by
  obtain ⟨e, he, h2⟩ := List.any_eq_true.1 h
  simp only [Bool.and_eq_true, beq_iff_eq] at h2
  exact ⟨e, Array.mem_toList_iff.1 he, h2.1, h2.2⟩
def updR (ρ : Nat → Value) (i : Nat) (v : Value) : Nat → Value := fun k => if k = i then v else ρ k

/-- the frame, with the values of those operations that the mask has -/
def layM (ops : Array Oper) (m : Nat → Bool) (ρ : Nat → Value) : Nat → Act → Act
  | 0, a => a
  | n + 1, a => if m n = true then (match ops[n]? with | some o => (layM ops m ρ n a).put o.dst (ρ n) | none => layM ops m ρ n a) else layM ops m ρ n a

theorem layM_congr {m m' : Nat → Bool} {ρ ρ' : Nat → Value} : ∀ (n : Nat) (a : Act), (∀ j, j < n → m j = m' j) → (∀ j, j < n → m j = true → ρ j = ρ' j) → layM ops m ρ n a = layM ops m' ρ' n a
  | 0, _, _, _ => rfl
  | n + 1, a, hm, hρ => by
    have ih := layM_congr n a (fun j hj => hm j (by omega)) (fun j hj => hρ j (by omega))
    unfold layM
    rw [ih, ← hm n (by omega)]
    by_cases h : m n = true
    · rw [hρ n (by omega) h]
    · simp [h]
theorem layM_none {m : Nat → Bool} {ρ : Nat → Value} : ∀ (n : Nat) (a : Act), (∀ j, j < n → m j = false) → layM ops m ρ n a = a
  | 0, _, _ => rfl
  | n + 1, a, h => by
    unfold layM
    rw [if_neg (by rw [h n (by omega)]; decide)]
    exact layM_none n a (fun j hj => h j (by omega))
theorem put_size (a : Act) (d : Option Tmp) (v : Value) : (a.put d v).tmps.size = a.tmps.size := by cases d <;> simp [Act.put]
theorem layM_size {m : Nat → Bool} {ρ : Nat → Value} : ∀ (n : Nat) (a : Act), (layM ops m ρ n a).tmps.size = a.tmps.size
  | 0, _ => rfl
  | n + 1, a => by
    unfold layM
    split
    · split
      · rw [put_size]; exact layM_size n a
      · exact layM_size n a
    · exact layM_size n a
theorem put_get (a : Act) (d : Option Tmp) (v : Value) (t : Nat) : (a.put d v).tmps[t]? = if d = some t ∧ t < a.tmps.size then some v else a.tmps[t]? := by
  cases d with
  | none => simp [Act.put]
  | some d =>
    by_cases h : d = t
    · subst h
      simp only [Act.put, true_and]
      by_cases h2 : d < a.tmps.size
      · simp [h2]
      · simp [h2]
    · simp [Act.put, h]
/-- a slot is the same under two masks that agree on the operations that lay it -/
theorem layM_slot {m m' : Nat → Bool} {ρ : Nat → Value} (t : Nat) : ∀ (n : Nat) (a : Act), (∀ j o, j < n → ops[j]? = some o → o.dst = some t → m j = m' j) → (layM ops m ρ n a).tmps[t]? = (layM ops m' ρ n a).tmps[t]?
  | 0, _, _ => rfl
  | n + 1, a, h => by
    have ih := layM_slot (ρ := ρ) (m := m) (m' := m') t n a (fun j o hj => h j o (by omega))
    have hs : (layM ops m ρ n a).tmps.size = (layM ops m' ρ n a).tmps.size := by rw [layM_size, layM_size]
    unfold layM
    cases ho : ops[n]? with
    | none => simp only []; split <;> split <;> exact ih
    | some o =>
      simp only []
      by_cases hd : o.dst = some t
      · rw [h n o (by omega) ho hd]
        split
        · rw [put_get, put_get, hs, ih]
        · exact ih
      · have hp : ∀ b : Act, (b.put o.dst (ρ n)).tmps[t]? = b.tmps[t]? := fun b => by rw [put_get, if_neg (fun h => hd h.1)]
        split <;> split <;> (try simp only [hp]) <;> exact ih
theorem eval_slot {a b : Act} {x : Operand} (h : ∀ t, x = .tmp t → a.tmps[t]? = b.tmps[t]?) : a.eval x = b.eval x := by
  cases x with
  | tmp t => have := h t rfl; simp [Act.eval, this]
  | _ => rfl
theorem exec_slots {o : Oper} (hs : ∀ cs b, o.op ≠ .select cs b) {a b : Act} (h : ∀ t ∈ o.looksAt ops, a.tmps[t]? = b.tmps[t]?) : execOp a.eval o = execOp b.eval o :=
  execOp_congr o hs fun x hx => eval_slot fun t ht => h t (by
    subst ht
    exact List.mem_append_left _ (List.mem_filterMap.2 ⟨.tmp t, by simpa using hx, rfl⟩))
theorem wanted_slots {o : Oper} {a b : Act} (h : ∀ t ∈ o.looksAt ops, a.tmps[t]? = b.tmps[t]?) : Region.wanted o (yielded ops a.tmps) = Region.wanted o (yielded ops b.tmps) := by
  unfold Region.wanted
  cases hg : o.guard with
  | none => rfl
  | some gw =>
    obtain ⟨g, want⟩ := gw
    have hy : yielded ops a.tmps g = yielded ops b.tmps g := by
      unfold yielded
      cases ht : (ops[g]?).bind (·.dst) with
      | none => rfl
      | some t =>
        have := h t (by simp [Oper.looksAt, hg, ht])
        simp [this]
    simp only [hy]

/-- what one operation does: its value, of which the fact holds behind it; old memory is kept -/
def GivesR (P : Program) (r : Result Next) (w : World) (F : Value → World → Prop) : Prop :=
  (∃ v w', r = .ok (.value v) w' ∧ F v w' ∧ Below w.heap.size w w') ∨ ∃ f args, r = .ok (.enter f args) w ∧ Calls P f args w fun e w' => ∃ v, e = .returned v ∧ F v w' ∧ Below w.heap.size w w'
def StepR (P : Program) (ops : Array Oper) (o : Oper) (a : Act) (w : World) (F : Value → World → Prop) : Prop :=
  (Region.wanted o (yielded ops a.tmps) = true ∧ GivesR P ((execOp a.eval o).run P w) w F) ∨ (Region.wanted o (yielded ops a.tmps) = false ∧ F undef w)
theorem StepR.wpOp {i : Nat} {o : Oper} {a : Act} {w : World} {F : Value → World → Prop} (hi : ops[i]? = some o) (hy : StepR P ops o a w F) {K : Act → World → Prop}
    (h : ∀ v w', F v w' → Below w.heap.size w w' → K (a.put o.dst v) w') : wpOp P ops Q i K a w := by
  unfold Go.wpOp
  simp only [hi]
  rcases hy with ⟨hw, hv⟩ | ⟨hw, hF⟩
  · simp only [hw, if_true, Oper.wp]
    rcases hv with ⟨v, w', e, hF, hb⟩ | ⟨f, args, e, hc⟩
    · rw [e]; exact .inl (h v w' hF hb)
    · rw [e]; exact .inl (hc.mono fun e w' ⟨v, he, hF, hb⟩ => by subst he; exact h v w' hF hb)
  · simp only [hw, Bool.false_eq_true, if_false]; exact h undef w hF (Below.refl _ _)

def depB (md : Region.Mode) (ops : Array Oper) (t0 : Nat) : Bool := (List.range t0).all fun i => match ops[i]? with
  | none => false
  | some o => o.after.toList.all (fun e => !Region.binds md e || decide (e.on < i)) && (List.range t0).all fun j => match ops[j]? with
    | none => false
    | some oj => match oj.dst with
      | none => true
      | some d => (!(o.looksAt ops).contains d || waitsOn md o j) && (decide (j = i) || !(o.dst == some d))
theorem depB_spec (h : depB md ops t0 = true) {i : Nat} (hi : i < t0) : ∃ o, ops[i]? = some o ∧ (∀ e ∈ o.after, Region.binds md e = true → e.on < i) ∧
    ∀ j, j < t0 → ∃ oj, ops[j]? = some oj ∧ ∀ d, oj.dst = some d → (d ∈ o.looksAt ops → waitsOn md o j = true) ∧ (j ≠ i → o.dst ≠ some d) := by
  have h1 := List.all_eq_true.1 h i (List.mem_range.2 hi)
  cases ho : ops[i]? with
  | none => rw [ho] at h1; cases h1
  | some o =>
    rw [ho] at h1
    simp only [Bool.and_eq_true] at h1
    refine ⟨o, rfl, fun e he hb => ?_, fun j hj => ?_⟩
    · have := List.all_eq_true.1 h1.1 e (Array.mem_toList_iff.2 he)
      simpa [hb] using this
    · have h2 := List.all_eq_true.1 h1.2 j (List.mem_range.2 hj)
      cases hoj : ops[j]? with
      | none => rw [hoj] at h2; cases h2
      | some oj =>
        rw [hoj] at h2
        refine ⟨oj, rfl, fun d hd => ?_⟩
        simp only [hd, Bool.and_eq_true, Bool.or_eq_true, Bool.not_eq_true', decide_eq_true_eq] at h2
        refine ⟨fun hm => ?_, fun hne he => ?_⟩
        · rcases h2.1 with h3 | h3
          · simp [hm] at h3
          · exact h3
        · rcases h2.2 with h3 | h3
          · exact hne h3
          · rw [he] at h3; simp at h3

def cntU (listed : Array Bool) : Nat → Nat
  | 0 => 0
  | n + 1 => cntU listed n + if listed.getD n false = true then 0 else 1
theorem cntU_set {listed : Array Bool} {i : Nat} (hs : i < listed.size) (hun : listed.getD i false = false) : ∀ n, cntU (listed.setIfInBounds i true) n + (if i < n then 1 else 0) = cntU listed n
  | 0 => by simp [cntU]
  | n + 1 => by
    have ih := cntU_set hs hun n
    unfold cntU
    by_cases h : i = n
    · subst h
      have e : (listed.setIfInBounds i true).getD i false = true := by simp [hs]
      rw [e, hun]
      simp at ih ⊢
      omega
    · rw [getD_set_ne false h]
      by_cases h2 : i < n
      · rw [if_pos h2] at ih; rw [if_pos (show i < n + 1 by omega)]; omega
      · rw [if_neg h2] at ih; rw [if_neg (show ¬ i < n + 1 by omega)]; omega
theorem cntU_zero {listed : Array Bool} : ∀ {n : Nat}, cntU listed n = 0 → ∀ j, j < n → listed.getD j false = true
  | 0, _, j, hj => by omega
  | n + 1, h, j, hj => by
    unfold cntU at h
    by_cases e : listed.getD n false = true
    · rw [if_pos e] at h
      by_cases h2 : j = n
      · subst h2; exact e
      · exact cntU_zero (n := n) (by omega) j (by omega)
    · rw [if_neg e] at h; omega
theorem cntU_pos {listed : Array Bool} : ∀ {n : Nat}, 0 < cntU listed n → ∃ i, i < n ∧ listed.getD i false = false ∧ ∀ j, j < i → listed.getD j false = true
  | 0, h => by simp [cntU] at h
  | n + 1, h => by
    by_cases h2 : 0 < cntU listed n
    · obtain ⟨i, hi, a, b⟩ := cntU_pos h2
      exact ⟨i, by omega, a, b⟩
    · unfold cntU at h
      by_cases e : listed.getD n false = true
      · rw [if_pos e] at h; omega
      · exact ⟨n, by omega, by simpa using e, cntU_zero (by omega)⟩
theorem cntU_all {m : Nat} : ∀ n, cntU (Array.replicate m false) n = n
  | 0 => rfl
  | n + 1 => by unfold cntU; rw [cntU_all n, getD_replicate_false]; simp

def headMask (ops : Array Oper) (t0 : Nat) : Array Bool := (List.range ops.size).map (fun j => decide (j < t0)) |>.toArray
theorem headMask_eq {listed : Array Bool} (hs : listed.size = ops.size) (hh : ∀ j, j < t0 → listed.getD j false = true) (ht : ∀ t, t0 ≤ t → t < ops.size → listed.getD t true = false) : listed = headMask ops t0 := by
  apply Array.ext
  · simp [headMask, hs]
  · intro i h1 h2
    have e : (headMask ops t0)[i] = decide (i < t0) := by simp [headMask]
    rw [e]
    by_cases h : i < t0
    · have := hh i h; simp [h1] at this; rw [this]; simp [h]
    · have := ht i (by omega) (by omega); simp [h1] at this; rw [this]; simp [h]

theorem layM_put (hok : depB md ops t0 = true) {i : Nat} {o : Oper} (hi : ops[i]? = some o) (hit : i < t0) {m : Nat → Bool} (hm : m i = false) {ρ : Nat → Value} (v : Value) :
    ∀ (n : Nat) (a : Act), i < n → n ≤ t0 → (layM ops m ρ n a).put o.dst v = layM ops (fun k => decide (k = i) || m k) (updR ρ i v) n a
  | 0, _, h, _ => by omega
  | n + 1, a, h, hn => by
    by_cases e : n = i
    · subst e
      have h1 : layM ops m ρ n a = layM ops (fun k => decide (k = n) || m k) (updR ρ n v) n a := layM_congr n a (fun j hj => by rw [decide_eq_false (by omega)]; rfl) (fun j hj _ => by unfold updR; rw [if_neg (by omega)])
      conv => lhs; unfold layM
      conv => rhs; unfold layM
      simp only [hm, Bool.false_eq_true, if_false, decide_true, Bool.true_or, if_true, hi]
      rw [← h1]
      unfold updR
      rw [if_pos rfl]
    · have ih := layM_put hok hi hit hm (ρ := ρ) v n a (by omega) (by omega)
      obtain ⟨on, hon, _, hon2⟩ := depB_spec hok (i := n) (by omega)
      conv => lhs; unfold layM
      conv => rhs; unfold layM
      rw [← ih]
      have e2 : (decide (n = i) || m n) = m n := by rw [decide_eq_false e]; rfl
      simp only [hon, e2]
      split
      · have e3 : updR ρ i v n = ρ n := by unfold updR; rw [if_neg e]
        rw [e3]
        apply Act.put_comm
        intro d hd hd2
        obtain ⟨oj, hoj, h5⟩ := hon2 i hit
        have : oj = o := Option.some.inj (hoj.symm.trans hi)
        subst this
        exact (h5 d hd2).2 (fun h => e h.symm) hd
      · rfl

/-- THE WALK holds of the draw -/
theorem wpR_sound (HS : Stable S) (HF : ∀ j v, Stable (Fact j v)) (hok : depB md ops t0 = true) (hT : tailB md ops t0 = true) (hsel : Region.noSelect ops = true) (hseq : Region.seqB md ops (ops.size - t0) t0 (headMask ops t0) = true) (ht0 : t0 ≤ ops.size) (a : Act)
    (hob : ∀ i o, ops[i]? = some o → i < t0 → ∀ ρ w, S w → (∀ j, j < t0 → waitsOn md o j = true → Fact j (ρ j) w) → StepR P ops o (layM ops (fun _ => true) ρ i a) w (Fact i))
    (hend : ∀ ρ w, S w → (∀ j, j < t0 → Fact j (ρ j) w) → wpList P ops Q (ops.toList.drop t0) (layM ops (fun _ => true) ρ t0 a) w) :
    ∀ (f : Nat) (listed : Array Bool) (ρ : Nat → Value) (w : World), HeadInv md ops t0 listed → cntU listed t0 = f → S w → (∀ j, j < t0 → listed.getD j false = true → Fact j (ρ j) w) →
      wpAny P md ops Q (f + (ops.size - t0)) listed (layM ops (fun j => listed.getD j false) ρ t0 a) w
  | 0, listed, ρ, w, inv, hc, hS, hf => by
    have hall := cntU_zero hc
    have hd : (ops.toList.drop t0).length = ops.size - t0 := by simp
    have e : layM ops (fun j => listed.getD j false) ρ t0 a = layM ops (fun _ => true) ρ t0 a := layM_congr t0 a (fun j hj => hall j hj) (fun _ _ _ => rfl)
    rw [e]
    have hm := headMask_eq (t0 := t0) inv.size hall inv.tail
    have := wpAny_of_seq (md := md) (Q' := Q) (ops.toList.drop t0) t0 listed (layM ops (fun _ => true) ρ t0 a) w (fun j => by simp [List.getElem?_drop]) (by rw [hd, hm]; exact hseq) (hend ρ w hS fun j hj => hf j hj (hall j hj))
    rw [hd] at this
    rw [Nat.zero_add]; exact this
  | f + 1, listed, ρ, w, inv, hc, hS, hf => by
    obtain ⟨i0, hi0, hun0, hbelow⟩ := cntU_pos (listed := listed) (n := t0) (by omega)
    have hsz := inv.size
    have hun0t : listed.getD i0 true = false := getD_in (by omega) hun0
    rw [show f + 1 + (ops.size - t0) = (f + (ops.size - t0)) + 1 by omega]
    refine ⟨fun h0 => ?_, fun i hi => ?_⟩
    · exfalso
      obtain ⟨o, ho, hd, _⟩ := depB_spec hok hi0
      have : i0 ∈ Region.ready md ops listed := mem_ready.2 ⟨hun0t, o, ho, fun e he hb => hbelow e.on (hd e he hb)⟩
      rw [h0] at this; cases this
    · have hit := ready_lt hT inv hi0 hun0t hi
      obtain ⟨hun, o, ho, hall⟩ := mem_ready.1 hi
      have hunf : listed.getD i false = false := getD_both hun
      obtain ⟨o', ho', hlow, hdep⟩ := depB_spec hok hit
      have : o' = o := Option.some.inj (ho'.symm.trans ho)
      subst this
      have hs := Region.noSelect_spec hsel i o'
      have slots : ∀ t ∈ o'.looksAt ops, (layM ops (fun j => listed.getD j false) ρ t0 a).tmps[t]? = (layM ops (fun _ => true) ρ i a).tmps[t]? := fun t ht => by
        have e1 : layM ops (fun _ => true) ρ i a = layM ops (fun j => decide (j < i)) ρ i a := layM_congr i a (fun j hj => (decide_eq_true hj).symm) (fun _ _ _ => rfl)
        have ext : ∀ n, i ≤ n → layM ops (fun j => decide (j < i)) ρ n a = layM ops (fun j => decide (j < i)) ρ i a := by
          intro n hn
          induction n with
          | zero => rw [show i = 0 by omega]
          | succ n ih =>
            by_cases h : i = n + 1
            · rw [h]
            · conv => lhs; unfold layM
              rw [if_neg (by rw [decide_eq_false (by omega)]; decide)]
              exact ih (by omega)
        rw [e1, ← ext t0 (by omega)]
        refine layM_slot t t0 a fun j oj hj hoj hd => ?_
        obtain ⟨oj', hoj', h5⟩ := hdep j hj
        have : oj' = oj := Option.some.inj (hoj'.symm.trans hoj)
        subst this
        have hw := (h5 t hd).1 ht
        obtain ⟨e, he, hb, hon⟩ := waitsOn_spec hw
        have h6 := hall e he hb
        have h7 := hlow e he hb
        rw [hon] at h6 h7
        rw [h6, decide_eq_true h7]
      have hstep := hob i o' ho hit ρ w hS fun j hj hw => by
        obtain ⟨e, he, hb, hon⟩ := waitsOn_spec hw
        have h6 := hall e he hb
        rw [hon] at h6
        exact hf j hj h6
      unfold StepR at hstep
      rw [← exec_slots (fun cs b => hs cs b ho) slots, ← wanted_slots slots] at hstep
      refine StepR.wpOp ho hstep fun v w' hFv hb => ?_
      rw [layM_put hok ho hit (m := fun j => listed.getD j false) hunf v t0 a hit (Nat.le_refl _)]
      have inv' := inv.set hi hit
      have hc' : cntU (listed.setIfInBounds i true) t0 = f := by
        have := cntU_set (listed := listed) (i := i) (by omega) hunf t0
        rw [if_pos hit] at this; omega
      have e2 : layM ops (fun k => decide (k = i) || listed.getD k false) (updR ρ i v) t0 a = layM ops (fun j => (listed.setIfInBounds i true).getD j false) (updR ρ i v) t0 a :=
        layM_congr t0 a (fun j hj => by
          by_cases h : j = i
          · subst h
            have : (listed.setIfInBounds j true).getD j false = true := by simp [show j < listed.size by omega]
            rw [this]; simp
          · rw [getD_set_ne false (fun h2 => h h2.symm), decide_eq_false h]; rfl) (fun _ _ _ => rfl)
      rw [e2]
      refine wpR_sound HS HF hok hT hsel hseq ht0 a hob hend f _ (updR ρ i v) w' inv' hc' (HS w w' hS hb) fun j hj hl => ?_
      by_cases h : j = i
      · subst h
        have : updR ρ j v j = v := by unfold updR; rw [if_pos rfl]
        rw [this]; exact hFv
      · rw [getD_set_ne false (fun h2 => h h2.symm)] at hl
        have : updR ρ i v j = ρ j := by unfold updR; rw [if_neg h]
        rw [this]; exact HF j _ w w' (hf j hj hl) hb

/-- the walk, in the order of the text: number k, and those behind it -/
def wpHR (P : Program) (md : Region.Mode) (ops : Array Oper) (S : World → Prop) (t0 : Nat) (Fact : Nat → Value → World → Prop) (ρ : Nat → Value) (L : Act → World → Prop) : Nat → List Oper → Act → Prop
  | _, [], a => ∀ w, S w → (∀ j, j < t0 → Fact j (ρ j) w) → L a w
  | k, o :: rest, a => (∀ w, S w → (∀ j, j < t0 → waitsOn md o j = true → Fact j (ρ j) w) → StepR P ops o a w (Fact k)) ∧ wpHR P md ops S t0 Fact ρ L (k + 1) rest (a.put o.dst (ρ k))
theorem wpHR_spec {ρ : Nat → Value} {L : Act → World → Prop} : ∀ (l : List Oper) (k : Nat) (a0 : Act), (∀ j, j < l.length → l[j]? = ops[k + j]?) → k + l.length = t0 →
    wpHR P md ops S t0 Fact ρ L k l (layM ops (fun _ => true) ρ k a0) →
      (∀ i o, ops[i]? = some o → k ≤ i → i < t0 → ∀ w, S w → (∀ j, j < t0 → waitsOn md o j = true → Fact j (ρ j) w) → StepR P ops o (layM ops (fun _ => true) ρ i a0) w (Fact i)) ∧
      (∀ w, S w → (∀ j, j < t0 → Fact j (ρ j) w) → L (layM ops (fun _ => true) ρ t0 a0) w)
  | [], k, a0, _, hk, h => by
    have : k = t0 := by simpa using hk
    subst this
    exact ⟨fun i o _ h1 h2 => by omega, h⟩
  | o :: l, k, a0, hl, hk, h => by
    have h0 : ops[k]? = some o := by simpa using (hl 0 (by simp)).symm
    have hl' : ∀ j, j < l.length → l[j]? = ops[k + 1 + j]? := fun j hj => by have := hl (j + 1) (by simp; omega); simpa [Nat.add_assoc, Nat.add_comm 1 j] using this
    simp only [List.length_cons] at hk
    have e : (layM ops (fun _ => true) ρ k a0).put o.dst (ρ k) = layM ops (fun _ => true) ρ (k + 1) a0 := by
      conv => rhs; unfold layM
      simp [h0]
    obtain ⟨h1, h2⟩ := h
    rw [e] at h2
    obtain ⟨h3, h4⟩ := wpHR_spec l (k + 1) a0 hl' (by omega) h2
    refine ⟨fun i oi hi hki hit => ?_, h4⟩
    by_cases e2 : i = k
    · subst e2
      have : oi = o := Option.some.inj (hi.symm.trans h0)
      subst this
      exact h1
    · exact h3 i oi hi (by omega) hit

def uniRB (ops : Array Oper) (t0 : Nat) : Bool := Region.noSelect ops && decide (t0 ≤ ops.size) && tailB .any ops t0 && depB .any ops t0 && Region.seqB .any ops (ops.size - t0) t0 (headMask ops t0)
theorem unir_any {a : Act} {w : World} {l : List Oper} (t0 : Nat) (S : World → Prop) (Fact : Nat → Value → World → Prop) (hB : uniRB l.toArray t0 = true) (HS : Stable S) (HF : ∀ j v, Stable (Fact j v)) (hS : S w.drew)
    (h : ∀ ρ, wpHR P .any l.toArray S t0 Fact ρ (wpList P l.toArray Q (l.drop t0)) 0 (l.take t0) a) : wpAny P .any l.toArray Q l.toArray.size (Array.replicate l.toArray.size false) a w.drew := by
  simp only [uniRB, Bool.and_eq_true, decide_eq_true_eq] at hB
  obtain ⟨⟨⟨⟨hsel, ht0⟩, hT⟩, hok⟩, hseq⟩ := hB
  have htl : (l.take t0).length = t0 := by simp at ht0 ⊢; omega
  have inv0 : HeadInv .any l.toArray t0 (Array.replicate l.toArray.size false) :=
    ⟨by simp, fun j oj _ hl => (by rw [getD_replicate_false] at hl; cases hl), fun t _ ht => getD_in (by simpa using ht) (getD_replicate_false _ _)⟩
  have spec := fun ρ => wpHR_spec (P := P) (md := .any) (ops := l.toArray) (S := S) (t0 := t0) (Fact := Fact) (ρ := ρ) (L := wpList P l.toArray Q (l.drop t0)) (l.take t0) 0 a (fun j hj => by
    have hj' : j < t0 := by rw [htl] at hj; exact hj
    simp [hj']) (by omega) (h ρ)
  have := wpR_sound (P := P) (Q := Q) (md := .any) (S := S) (Fact := Fact) (t0 := t0) HS HF hok hT hsel hseq ht0 a (fun i o hi hit ρ w hS' hd => (spec ρ).1 i o hi (by omega) hit w hS' hd) (fun ρ w hS' hf => (spec ρ).2 w hS' hf)
    t0 (Array.replicate l.toArray.size false) (fun _ => undef) w.drew inv0 (cntU_all t0) hS (fun j hj hl => by rw [getD_replicate_false] at hl; cases hl)
  rw [layM_none t0 a (fun j _ => getD_replicate_false _ _), show t0 + (l.toArray.size - t0) = l.toArray.size by omega] at this
  exact this
/-- THE REGION, anywhere -/
theorem wp_region_unir {id : Nat} {a : Act} {w : World} {l : List Oper} (t0 : Nat) (S : World → Prop) (Fact : Nat → Value → World → Prop) (hm : P.follows .mixedOrders = true) (hB : uniRB l.toArray t0 = true) (HS : Stable S) (HF : ∀ j v, Stable (Fact j v)) (hS : S w.drew)
    (h : ∀ ρ, wpHR P .any l.toArray S t0 Fact ρ (wpList P l.toArray Q (l.drop t0)) 0 (l.take t0) a) : (Code.region id l.toArray true).wp P Q a w :=
  wp_region_any hm (unir_any t0 S Fact hB HS HF hS h)
theorem round_region_unir {l0 n : Nat} {id : Nat} {a : Act} {w : World} {l : List Oper} (t0 : Nat) (S : World → Prop) (Fact : Nat → Value → World → Prop) (hLQ : ¬ LetsOut Q) (hnd : noDefer l.toArray = true) (hm : P.follows .mixedOrders = true) (hB : uniRB l.toArray t0 = true) (HS : Stable S) (HF : ∀ j v, Stable (Fact j v)) (hS : S w.drew)
    (h : ∀ ρ, wpHR P .any l.toArray S t0 Fact ρ (wpList P l.toArray Q (l.drop t0)) 0 (l.take t0) a) : (Code.region id l.toArray true).wpIn (Fence.wide.inRound l0) n P Q a w :=
  wpIn_region_any hm (wpAny_round hnd hLQ _ _ _ _ (unir_any t0 S Fact hB HS HF hS h))
end
end Go.Proofs.Ythpmbfdbknikcaa
