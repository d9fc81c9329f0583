/- The evaluator: regions that draw their order. -/
import Derived.Test.YtpfoifflfgiaoaaGreatDoorK01
import Derived.Test.YtpfoifflfgiaoaaGreatDoorK11
set_option linter.unusedVariables false
set_option linter.unusedSimpArgs false
namespace Go.Proofs.YtpfoifflfgiaoaaGreatDoor
open Go Go.RowKit Go.MapKept

section
variable {P : Program} {ops : Array Oper} {Q : Exit → Act → World → Prop}
def upM (m : Nat → Bool) (i : Nat) : Nat → Bool := fun j => decide (j = i) || m j
/-- one operation keeps the invariant -/
def StepI (P : Program) (ops : Array Oper) (o : Oper) (a : Act) (w : World) (J : Value → World → Prop) : Prop :=
  (Region.wanted o (yielded ops a.tmps) = true ∧ ((∃ v w', (execOp a.eval o).run P w = .ok (.value v) w' ∧ J v w') ∨ (∃ w', (execOp a.eval o).run P w = .ok .skip w' ∧ J undef w') ∨
    (∃ f args, (execOp a.eval o).run P w = .ok (.enter f args) w ∧ Calls P f args w fun en w' => ∃ v, en = .returned v ∧ J v w'))) ∨
  (Region.wanted o (yielded ops a.tmps) = false ∧ J undef w)
theorem StepI.wpOp {i : Nat} {o : Oper} {a : Act} {w : World} {J : Value → World → Prop} (hi : ops[i]? = some o) (hy : StepI P ops o a w J) {K : Act → World → Prop}
    (h : ∀ v w', J v w' → K (a.put o.dst v) w') : wpOp P ops Q i K a w := by
  unfold Go.wpOp
  simp only [hi]
  rcases hy with ⟨hw, hv⟩ | ⟨hw, hv⟩
  · simp only [hw, if_true, Oper.wp]
    rcases hv with ⟨v, w', e, hJ⟩ | ⟨w', e, hJ⟩ | ⟨f, args, e, hc⟩
    · rw [e]; exact .inl (h v w' hJ)
    · rw [e]; exact .inl (h undef w' hJ)
    · rw [e]
      refine .inl (hc.mono ?_)
      rintro en w' ⟨v, rfl, hJ⟩
      exact h v w' hJ
  · simp only [hw, Bool.false_eq_true, if_false]; exact h undef w hv
def Closed (ops : Array Oper) (m : Nat → Bool) : Prop := ∀ j oj, ops[j]? = some oj → m j = true → ∀ k, waitsOn .any oj k = true → m k = true
theorem wpI_sound {I : (Nat → Bool) → (Nat → Value) → World → Prop} (hok : depB .any ops ops.size = true) (hsel : Region.noSelect ops = true) (a : Act)
    (hstep : ∀ i o, ops[i]? = some o → ∀ m ρ w, Closed ops m → m i = false → (∀ j, waitsOn .any o j = true → m j = true) → I m ρ w →
      StepI P ops o (layM ops (fun _ => true) ρ i a) w fun v w' => I (upM m i) (updR ρ i v) w')
    (hend : ∀ m ρ w, (∀ j, j < ops.size → m j = true) → I m ρ w → Q .normal (layM ops (fun _ => true) ρ ops.size a) w) :
    ∀ (f : Nat) (listed : Array Bool) (ρ : Nat → Value) (w : World), HeadInv .any ops ops.size listed → cntU listed ops.size = f → I (fun j => listed.getD j false) ρ w →
      wpAny P .any ops Q f listed (layM ops (fun j => listed.getD j false) ρ ops.size a) w
  | 0, listed, ρ, w, inv, hc, hI => by
    have hall := cntU_zero hc
    have e : layM ops (fun j => listed.getD j false) ρ ops.size a = layM ops (fun _ => true) ρ ops.size a := layM_congr _ a (fun j hj => hall j hj) (fun _ _ _ => rfl)
    rw [e]
    refine ⟨?_, hend _ ρ w (fun j hj => hall j hj) hI⟩
    rw [List.eq_nil_iff_forall_not_mem]
    intro i hi
    obtain ⟨hun, o, ho, _⟩ := mem_ready.1 hi
    have := hall i (Array.getElem?_eq_some_iff.1 ho).1
    rw [getD_both hun] at this
    cases this
  | f + 1, listed, ρ, w, inv, hc, hI => by
    obtain ⟨i0, hi0, hun0, hbelow⟩ := cntU_pos (listed := listed) (n := ops.size) (by omega)
    have hsz := inv.size
    have hun0t : listed.getD i0 true = false := getD_in (by omega) hun0
    refine ⟨fun h0 => ?_, fun i hi => ?_⟩
    · exfalso
      obtain ⟨o, ho, hd, _⟩ := depB_spec hok hi0
      have : i0 ∈ Region.ready .any ops listed := mem_ready.2 ⟨hun0t, o, ho, fun e he hb => hbelow e.on (hd e he hb)⟩
      rw [h0] at this; cases this
    · obtain ⟨hun, o, ho, hall⟩ := mem_ready.1 hi
      have hit : i < ops.size := (Array.getElem?_eq_some_iff.1 ho).1
      have hunf : listed.getD i false = false := getD_both hun
      obtain ⟨o', ho', hlow, hdep⟩ := depB_spec hok hit
      have : o' = o := Option.some.inj (ho'.symm.trans ho)
      subst this
      have hs := Region.noSelect_spec hsel i o'
      have hwait : ∀ j, waitsOn .any o' j = true → listed.getD j false = true := fun j hw => by
        obtain ⟨e, he, hb, hon⟩ := waitsOn_spec hw
        have h6 := hall e he hb
        rwa [hon] at h6
      have slots : ∀ t ∈ o'.looksAt ops, (layM ops (fun j => listed.getD j false) ρ ops.size a).tmps[t]? = (layM ops (fun _ => true) ρ i a).tmps[t]? := fun t ht => by
        have e1 : layM ops (fun _ => true) ρ i a = layM ops (fun j => decide (j < i)) ρ i a := layM_congr i a (fun j hj => (decide_eq_true hj).symm) (fun _ _ _ => rfl)
        have ext : ∀ n, i ≤ n → layM ops (fun j => decide (j < i)) ρ n a = layM ops (fun j => decide (j < i)) ρ i a := by
          intro n hn
          induction n with
          | zero => rw [show i = 0 by omega]
          | succ n ih =>
            by_cases h : i = n + 1
            · rw [h]
            · conv => lhs; unfold layM
              rw [if_neg (by rw [decide_eq_false (by omega)]; decide)]
              exact ih (by omega)
        rw [e1, ← ext ops.size (by omega)]
        refine layM_slot t ops.size a fun j oj hj hoj hd => ?_
        obtain ⟨oj', hoj', h5⟩ := hdep j hj
        have : oj' = oj := Option.some.inj (hoj'.symm.trans hoj)
        subst this
        have hw := (h5 t hd).1 ht
        obtain ⟨e, he, hb, hon⟩ := waitsOn_spec hw
        have h6 := hall e he hb
        have h7 := hlow e he hb
        rw [hon] at h6 h7
        rw [h6, decide_eq_true h7]
      have hcl : Closed ops fun j => listed.getD j false := fun j oj hoj hl k hw => by
        obtain ⟨e, he, hb, hon⟩ := waitsOn_spec hw
        have := inv.closed j oj hoj hl e he hb
        rwa [hon] at this
      have hst := hstep i o' ho _ ρ w hcl hunf hwait hI
      unfold StepI at hst
      rw [← exec_slots (fun cs b => hs cs b ho) slots, ← wanted_slots slots] at hst
      refine StepI.wpOp ho hst fun v w' hJ => ?_
      rw [layM_put hok ho hit (m := fun j => listed.getD j false) hunf v ops.size a hit (Nat.le_refl _)]
      have inv' := inv.set hi hit
      have hc' : cntU (listed.setIfInBounds i true) ops.size = f := by
        have := cntU_set (listed := listed) (i := i) (by omega) hunf ops.size
        rw [if_pos hit] at this; omega
      have em : (fun j => (listed.setIfInBounds i true).getD j false) = upM (fun j => listed.getD j false) i := funext fun j => by
        unfold upM
        by_cases h : j = i
        · subst h
          have : (listed.setIfInBounds j true).getD j false = true := by simp [show j < listed.size by omega]
          rw [this]; simp
        · rw [getD_set_ne false (fun h2 => h h2.symm), decide_eq_false h]; rfl
      have e2 : layM ops (fun k => decide (k = i) || listed.getD k false) (updR ρ i v) ops.size a = layM ops (fun j => (listed.setIfInBounds i true).getD j false) (updR ρ i v) ops.size a := by
        rw [em]; rfl
      rw [e2]
      refine wpI_sound hok hsel a hstep hend f _ (updR ρ i v) w' inv' hc' ?_
      rw [em]; exact hJ
theorem wpI_any {I : (Nat → Bool) → (Nat → Value) → World → Prop} (hok : depB .any ops ops.size = true) (hsel : Region.noSelect ops = true) (a : Act)
    (hstep : ∀ i o, ops[i]? = some o → ∀ m ρ w, Closed ops m → m i = false → (∀ j, waitsOn .any o j = true → m j = true) → I m ρ w →
      StepI P ops o (layM ops (fun _ => true) ρ i a) w fun v w' => I (upM m i) (updR ρ i v) w')
    (hend : ∀ m ρ w, (∀ j, j < ops.size → m j = true) → I m ρ w → Q .normal (layM ops (fun _ => true) ρ ops.size a) w) {w : World} (h0 : I (fun _ => false) (fun _ => undef) w) :
    wpAny P .any ops Q ops.size (Array.replicate ops.size false) a w := by
  have em : (fun j => (Array.replicate ops.size false).getD j false) = fun _ => false := funext fun j => getD_replicate_false _ _
  have := wpI_sound (P := P) (Q := Q) hok hsel a hstep hend ops.size (Array.replicate ops.size false) (fun _ => undef) w
    ⟨by simp, fun j oj _ hl => (by rw [getD_replicate_false] at hl; cases hl), fun t _ ht => getD_in (by simpa using ht) (getD_replicate_false _ _)⟩ (cntU_all _) (by rw [em]; exact h0)
  rwa [layM_none ops.size a (fun j _ => getD_replicate_false _ _)] at this
end
end Go.Proofs.YtpfoifflfgiaoaaGreatDoor
namespace Go.Proofs.YtpfoifflfgiaoaaGreatDoor
open Go Go.RowKit Go.MapKept

def maskH (h : List Blk) (f : List Nat) : List Blk := h.mapIdx fun k b => if f.contains k then b else .dead
def mrg (h h' : List Blk) (d : List Nat) : List Blk := (h.mapIdx fun k b => if d.contains k then (h'[k]?).getD .dead else b) ++ h'.drop h.length
theorem maskH_length (h : List Blk) (f : List Nat) : (maskH h f).length = h.length := by simp [maskH]
theorem maskH_get {h : List Blk} {f : List Nat} {k : Nat} {b : Blk} (hk : (maskH h f)[k]? = some b) : (f.contains k = true ∧ h[k]? = some b) ∨ (f.contains k = false ∧ b = .dead ∧ k < h.length) := by
  unfold maskH at hk
  rw [List.getElem?_mapIdx] at hk
  cases hx : h[k]? with
  | none => rw [hx] at hk; cases hk
  | some y =>
    rw [hx] at hk
    simp only [Option.map_some, Option.some.injEq] at hk
    by_cases hf : f.contains k = true
    · rw [if_pos hf] at hk; exact .inl ⟨hf, by rw [hk]⟩
    · rw [if_neg hf] at hk; exact .inr ⟨by simpa using hf, hk.symm, (List.getElem?_eq_some_iff.1 hx).1⟩
theorem mrg_length {h h' : List Blk} {d : List Nat} (hl : h.length ≤ h'.length) : (mrg h h' d).length = h'.length := by
  simp [mrg]; omega
theorem mrg_lt {h h' : List Blk} {d : List Nat} {k : Nat} (hk : k < h.length) (hl : h.length ≤ h'.length) : (mrg h h' d)[k]? = if d.contains k = true then h'[k]? else h[k]? := by
  unfold mrg
  rw [List.getElem?_append_left (by simpa using hk), List.getElem?_mapIdx, List.getElem?_eq_getElem hk]
  simp only [Option.map_some]
  split
  · rw [List.getElem?_eq_getElem (show k < h'.length by omega)]; rfl
  · rfl
theorem mrg_ge {h h' : List Blk} {d : List Nat} {k : Nat} (hk : h.length ≤ k) : (mrg h h' d)[k]? = h'[k]? := by
  unfold mrg
  rw [List.getElem?_append_right (by simpa using hk)]
  simp only [List.length_mapIdx, List.getElem?_drop]
  congr 1; omega

section
variable {P : Program} {x : Ext} {cl : Cl} {ops : Array Oper} {H : Nat → List Blk} {T : Nat → List AV} {R : Nat → AV} {hR : Nat → List Blk} {F D : Nat → List Nat}
/-- waits for c, or for one that does, and so on -/
def waitsT (ops : Array Oper) : Nat → Oper → Nat → Bool
  | 0, _, _ => false
  | n + 1, o, c => waitsOn .any o c || o.after.toList.any fun ed => Region.binds .any ed && (match ops[ed.on]? with | some o' => waitsT ops n o' c | none => false)
theorem waitsT_done {ops : Array Oper} {m : Nat → Bool} (hc : Closed ops m) {c : Nat} : ∀ (n : Nat) {j : Nat} {o : Oper}, ops[j]? = some o → m j = true → waitsT ops n o c = true → m c = true
  | 0, j, o, _, _, h => by cases h
  | n + 1, j, o, ho, hm, h => by
    unfold waitsT at h
    rw [Bool.or_eq_true] at h
    rcases h with h | h
    · exact hc j o ho hm c h
    · obtain ⟨ed, he, h2⟩ := List.any_eq_true.1 h
      rw [Bool.and_eq_true] at h2
      split at h2
      · rename_i o' ho'
        have hw : waitsOn .any o ed.on = true := List.any_eq_true.2 ⟨ed, he, by simp [h2.1]⟩
        exact waitsT_done hc n ho' (hc j o ho hm ed.on hw) h2.2
      · cases h2.2
/-- the numbers that operation i may name: those that were there, its own, and those of the operations for which it waits -/
def allowed (ops : Array Oper) (H : Nat → List Blk) (i k : Nat) : Bool :=
  decide (k < (H (i + 1)).length) && (decide (k < (H 0).length) || decide ((H i).length ≤ k) || (List.range i).any fun c => (match ops[i]? with | some o => waitsT ops 6 o c | none => false) && decide ((H c).length ≤ k) && decide (k < (H (c + 1)).length))
structure Stat (P : Program) (x : Ext) (cl : Cl) (ops : Array Oper) (H : Nat → List Blk) (T : Nat → List AV) (R : Nat → AV) (hR : Nat → List Blk) (F D : Nat → List Nat) : Prop where
  one : ∀ i o, ops[i]? = some o → ∃ pa rs, oneR P x cl ops o ⟨T i, maskH (H i) (F i), pa⟩ = some (R i, rs) ∧ rs.s.h = hR i ∧ rs.d = D i ∧ rs.s.tm = T (i + 1) ∧ (∀ b ∈ rs.ob, b = true)
  next : ∀ i, i < ops.size → H (i + 1) = mrg (H i) (hR i) (D i)
  le : ∀ i, i < ops.size → (H i).length ≤ (hR i).length
  dirty : ∀ i, i < ops.size → ∀ k, (D i).contains k = true → k < (H i).length → (F i).contains k = true ∧ ∃ b, (H i)[k]? = some b ∧ b.own = true
  conf : ∀ i j oj, i < j → ops[j]? = some oj → ∀ k, ((D i).contains k = true ∧ (F j).contains k = true) ∨ ((F i).contains k = true ∧ (D j).contains k = true) ∨ ((F j).contains k = true ∧ (H i).length ≤ k ∧ k < (H (i + 1)).length) → waitsOn .any oj i = true
  mentR : ∀ i, i < ops.size → (R i).sc (allowed ops H i) = true
  mentB : ∀ i, i < ops.size → ∀ k b, ((D i).contains k = true ∨ (H i).length ≤ k) → (hR i)[k]? = some b → b.sc (allowed ops H i) = true
  sc0 : ∀ (k : Nat) (b : Blk), (H 0)[k]? = some b → b.sc (lt (H 0).length) = true
  scT0 : scL (lt (H 0).length) (T 0) = true
  low : ∀ i o, ops[i]? = some o → ∀ c, waitsOn .any o c = true → c < i
/-- what block k holds when the operations of m are done, of those ahead of j -/
def cont (H : Nat → List Blk) (D : Nat → List Nat) (m : Nat → Bool) : Nat → Nat → Option Blk
  | 0, k => (H 0)[k]?
  | j + 1, k => if m j = true ∧ ((D j).contains k = true ∨ (H j).length ≤ k) then (H (j + 1))[k]? else cont H D m j k
theorem Stat.step (S : Stat P x cl ops H T R hR F D) {i : Nat} (hi : i < ops.size) : (H (i + 1)).length = (hR i).length := by rw [S.next i hi, mrg_length (S.le i hi)]
theorem Stat.mono (S : Stat P x cl ops H T R hR F D) : ∀ {i j : Nat}, i ≤ j → j ≤ ops.size → (H i).length ≤ (H j).length := by
  intro i j hij hj
  induction j with
  | zero => rw [show i = 0 by omega]; exact Nat.le_refl _
  | succ j ih =>
    by_cases h : i = j + 1
    · rw [h]; exact Nat.le_refl _
    · have h1 := ih (by omega) (by omega)
      have h2 := S.le j (by omega)
      rw [S.step (by omega)]; omega
theorem cont_none (S : Stat P x cl ops H T R hR F D) {m : Nat → Bool} : ∀ {j k : Nat}, j ≤ ops.size → (H j).length ≤ k → cont H D m j k = none := by
  intro j
  induction j with
  | zero => intro k _ hk; exact List.getElem?_eq_none hk
  | succ j ih =>
    intro k hj hk
    unfold cont
    split
    · exact List.getElem?_eq_none hk
    · exact ih (by omega) (Nat.le_trans (S.mono (Nat.le_succ j) hj) hk)
/-- a block that operation i looks at holds what it holds in the order of the text -/
theorem cont_foot (S : Stat P x cl ops H T R hR F D) {m : Nat → Bool} (hc : Closed ops m) {i : Nat} {o : Oper} (hi : ops[i]? = some o) (hm : m i = false) (hw : ∀ j, waitsOn .any o j = true → m j = true) {k : Nat} (hk : (F i).contains k = true) (hkl : k < (H i).length) :
    cont H D m ops.size k = (H i)[k]? := by
  have hin : i < ops.size := (Array.getElem?_eq_some_iff.1 hi).1
  have A1 : ∀ j, j ≤ i → cont H D m j k = (H j)[k]? := by
    intro j
    induction j with
    | zero => intro _; rfl
    | succ j ih =>
      intro hj
      have hjn : j < ops.size := by omega
      unfold cont
      split
      · rfl
      · rename_i hno
        rw [ih (by omega)]
        by_cases hlt : k < (H j).length
        · by_cases hd : (D j).contains k = true
          · have := S.conf j i o (by omega) hi k (.inl ⟨hd, hk⟩)
            exact absurd ⟨hw j this, .inl hd⟩ hno
          · rw [S.next j hjn, mrg_lt hlt (S.le j hjn), if_neg hd]
        · rw [List.getElem?_eq_none (by omega)]
          by_cases hlt2 : k < (H (j + 1)).length
          · have := S.conf j i o (by omega) hi k (.inr (.inr ⟨hk, by omega, hlt2⟩))
            exact absurd ⟨hw j this, .inr (by omega)⟩ hno
          · rw [List.getElem?_eq_none (by omega)]
  have A2 : ∀ n, i + n ≤ ops.size → cont H D m (i + n) k = (H i)[k]? := by
    intro n
    induction n with
    | zero => intro _; exact A1 i (Nat.le_refl _)
    | succ n ih =>
      intro hn
      show cont H D m (i + n + 1) k = _
      unfold cont
      rw [if_neg]
      · exact ih (by omega)
      · rintro ⟨h1, h2⟩
        have hne : i + n ≠ i := fun e => by rw [e, hm] at h1; cases h1
        have hjn : i + n < ops.size := by omega
        have hd : (D (i + n)).contains k = true := by
          rcases h2 with h2 | h2
          · exact h2
          · have := S.mono (i := i) (j := i + n) (by omega) (by omega); omega
        have hoj : ops[i + n]? = some ops[i + n] := Array.getElem?_eq_getElem hjn
        have := S.conf i (i + n) _ (by omega) hoj k (.inr (.inl ⟨hk, hd⟩))
        have := hc _ _ hoj h1 i this
        rw [hm] at this; cases this
  have := A2 (ops.size - i) (by omega)
  rwa [show i + (ops.size - i) = ops.size by omega] at this
/-- the numbers that are not operation i's own -/
def outOf (H : Nat → List Blk) (i k : Nat) : Bool := !(decide ((H i).length ≤ k) && decide (k < (H (i + 1)).length))
theorem outOf_iff {i k : Nat} : outOf H i k = true ↔ ¬ ((H i).length ≤ k ∧ k < (H (i + 1)).length) := by
  unfold outOf; simp only [Bool.not_eq_true', Bool.and_eq_false_iff, decide_eq_false_iff_not]
  constructor
  · rintro h ⟨h1, h2⟩; rcases h with h | h <;> omega
  · intro h; by_cases h1 : (H i).length ≤ k
    · right; intro h2; exact h ⟨h1, h2⟩
    · left; exact h1
theorem allowed_out (S : Stat P x cl ops H T R hR F D) {m : Nat → Bool} (hc : Closed ops m) {i j : Nat} (hi : i < ops.size) (hj : j < ops.size) (hm : m i = false) (hmj : m j = true) {k : Nat} (hk : allowed ops H j k = true) : outOf H i k = true := by
  rw [outOf_iff]
  rintro ⟨h1, h2⟩
  have disj : ∀ c, c < ops.size → (H c).length ≤ k → k < (H (c + 1)).length → c = i := fun c hcn h3 h4 => by
    rcases Nat.lt_trichotomy c i with h | h | h
    · have := S.mono (i := c + 1) (j := i) (by omega) (by omega); omega
    · exact h
    · have := S.mono (i := i + 1) (j := c) (by omega) (by omega); omega
  unfold allowed at hk
  simp only [Bool.and_eq_true, Bool.or_eq_true, decide_eq_true_eq] at hk
  obtain ⟨hkl, hk⟩ := hk
  rcases hk with (hk | hk) | hk
  · have := S.mono (i := 0) (j := i) (by omega) (by omega); omega
  · have := disj j hj hk hkl
    subst this
    rw [hm] at hmj; cases hmj
  · obtain ⟨c, hcr, hcc⟩ := List.any_eq_true.1 hk
    simp only [Bool.and_eq_true, decide_eq_true_eq] at hcc
    have hcj := List.mem_range.1 hcr
    have hoj : ops[j]? = some ops[j] := Array.getElem?_eq_getElem hj
    rw [hoj] at hcc
    have h5 := waitsT_done hc 6 hoj hmj hcc.1.1
    have := disj c (by omega) hcc.1.2 hcc.2
    subst this
    rw [hm] at h5; cases h5
theorem Stat.scH (S : Stat P x cl ops H T R hR F D) : ∀ (j : Nat), j ≤ ops.size → ∀ (k : Nat) (b : Blk), (H j)[k]? = some b → b.sc (lt (H j).length) = true := by
  intro j
  induction j with
  | zero => intro _; exact S.sc0
  | succ j ih =>
    intro hj k b hb
    have hjn : j < ops.size := by omega
    have up : ∀ k', allowed ops H j k' = true → lt (H (j + 1)).length k' = true := fun k' hk' => by
      unfold allowed at hk'
      simp only [Bool.and_eq_true, decide_eq_true_eq] at hk'
      exact lt_iff.2 hk'.1
    have hb2 := hb
    rw [S.next j hjn] at hb2
    by_cases hlt : k < (H j).length
    · rw [mrg_lt hlt (S.le j hjn)] at hb2
      split at hb2
      · rename_i hd
        exact b.sc_mono up (S.mentB j hjn k b (.inl hd) hb2)
      · exact b.sc_mono (lt_mono (S.mono (Nat.le_succ j) hj)) (ih (by omega) k b hb2)
    · rw [mrg_ge (by omega)] at hb2
      exact b.sc_mono up (S.mentB j hjn k b (.inr (by omega)) hb2)
theorem Stat.scM (S : Stat P x cl ops H T R hR F D) {i : Nat} (hi : i < ops.size) (k : Nat) (b : Blk) (hb : (maskH (H i) (F i))[k]? = some b) : b.sc (lt (H i).length) = true := by
  rcases maskH_get hb with ⟨_, h⟩ | ⟨_, rfl, _⟩
  · exact S.scH i (by omega) k b h
  · rfl
theorem Stat.scR (S : Stat P x cl ops H T R hR F D) {i : Nat} (hi : i < ops.size) : (R i).sc (lt (H (i + 1)).length) = true :=
  (R i).sc_mono (fun k' hk' => by
    unfold allowed at hk'
    simp only [Bool.and_eq_true, decide_eq_true_eq] at hk'
    exact lt_iff.2 hk'.1) (S.mentR i hi)
end
end Go.Proofs.YtpfoifflfgiaoaaGreatDoor
namespace Go.Proofs.YtpfoifflfgiaoaaGreatDoor
open Go Go.RowKit Go.MapKept

section
variable {P : Program} {B : Nat} {W : World} {x : Ext} {cl : Cl} {ops : Array Oper} {H : Nat → List Blk} {T : Nat → List AV} {R : Nat → AV} {hR : Nat → List Blk} {F D : Nat → List Nat}
/-- what holds of the world w when the operations of m are done; e0, w0: ahead of the region -/
structure InvE (B : Nat) (W : World) (ops : Array Oper) (H : Nat → List Blk) (R : Nat → AV) (D : Nat → List Nat) (DD : List Nat) (e0 : Env) (w0 : World) (m : Nat → Bool) (ρ : Nat → Value) (w : World) (e : Env) : Prop where
  size : B ≤ w.heap.size
  bel : Below B W w
  blk : ∀ k b, cont H D m ops.size k = some b → BR e B k b w
  inj : ∀ k k' b b', cont H D m ops.size k = some b → cont H D m ops.size k' = some b' → b.own = true → b'.own = true → k ≠ k' → e.β k ≠ e.β k'
  res : ∀ j, j < ops.size → m j = true → ρ j = (R j).den e
  agr : Agr (lt (H 0).length) e0 e
  fr : Fr e0 (H 0).length DD w0 w
  new : ∀ k, (H 0).length ≤ k → (cont H D m ops.size k).isSome = true → w0.heap.size ≤ e.β k ∨ ∃ j, j < (H 0).length ∧ j ∈ DD ∧ e.β k = e0.β j
theorem cont_sc (S : Stat P x cl ops H T R hR F D) {m : Nat → Bool} (hc : Closed ops m) {i : Nat} (hi : i < ops.size) (hm : m i = false) : ∀ (j k : Nat) (b : Blk), j ≤ ops.size → cont H D m j k = some b → b.sc (outOf H i) = true := by
  intro j
  induction j with
  | zero =>
    intro k b _ hb
    refine b.sc_mono (fun k' hk' => ?_) (S.sc0 k b hb)
    rw [outOf_iff]
    have := lt_iff.1 hk'
    have := S.mono (i := 0) (j := i) (by omega) (by omega)
    omega
  | succ j ih =>
    intro k b hj hb
    unfold cont at hb
    split at hb
    · rename_i hcond
      have hjn : j < ops.size := by omega
      have hb2 : (hR j)[k]? = some b := by
        rw [S.next j hjn] at hb
        by_cases hlt : k < (H j).length
        · rw [mrg_lt hlt (S.le j hjn)] at hb
          split at hb
          · exact hb
          · rename_i hd
            rcases hcond.2 with h | h
            · exact absurd h hd
            · omega
        · rwa [mrg_ge (by omega)] at hb
      exact b.sc_mono (fun k' g1 => allowed_out S hc hi hjn hm hcond.1 g1) (S.mentB j hjn k b hcond.2 hb2)
    · exact ih k b (by omega) hb
/-- what is touched by operation i -/
theorem cont_touch (S : Stat P x cl ops H T R hR F D) {m : Nat → Bool} (hc : Closed ops m) {i : Nat} (hi : i < ops.size) (hm : m i = false) {k : Nat} (hk : (D i).contains k = true ∨ (H i).length ≤ k) (hkl : k < (H (i + 1)).length) :
    cont H D (upM m i) ops.size k = (H (i + 1))[k]? := by
  have A2 : ∀ n, i + 1 + n ≤ ops.size → cont H D (upM m i) (i + 1 + n) k = (H (i + 1))[k]? := by
    intro n
    induction n with
    | zero =>
      intro _
      show cont H D (upM m i) (i + 1) k = _
      unfold cont
      rw [if_pos ⟨by simp [upM], hk⟩]
    | succ n ih =>
      intro hn
      show cont H D (upM m i) (i + 1 + n + 1) k = _
      unfold cont
      rw [if_neg]
      · exact ih (by omega)
      · rintro ⟨h1, h2⟩
        have hjn : i + 1 + n < ops.size := by omega
        have hmj : m (i + 1 + n) = true := by
          unfold upM at h1
          rw [decide_eq_false (by omega)] at h1
          simpa using h1
        have hlen := S.mono (i := i + 1) (j := i + 1 + n) (by omega) (by omega)
        have hd : (D (i + 1 + n)).contains k = true := by
          rcases h2 with h2 | h2
          · exact h2
          · omega
        have hf := (S.dirty (i + 1 + n) hjn k hd (by omega)).1
        have hoj : ops[i + 1 + n]? = some ops[i + 1 + n] := Array.getElem?_eq_getElem hjn
        have hw : waitsOn .any ops[i + 1 + n] i = true := by
          rcases hk with hk | hk
          · exact S.conf i (i + 1 + n) _ (by omega) hoj k (.inl ⟨hk, hf⟩)
          · exact S.conf i (i + 1 + n) _ (by omega) hoj k (.inr (.inr ⟨hf, hk, hkl⟩))
        have := hc _ _ hoj hmj i hw
        rw [hm] at this; cases this
  have := A2 (ops.size - (i + 1)) (by omega)
  rwa [show i + 1 + (ops.size - (i + 1)) = ops.size by omega] at this
theorem cont_other (S : Stat P x cl ops H T R hR F D) {m : Nat → Bool} {i : Nat} (hi : i < ops.size) (hm : m i = false) {k : Nat} (hk : ¬ ((D i).contains k = true ∨ (H i).length ≤ k) ∨ (H (i + 1)).length ≤ k) (hd : (D i).contains k = true → k < (H (i + 1)).length) :
    ∀ j, j ≤ ops.size → cont H D (upM m i) j k = cont H D m j k := by
  intro j
  induction j with
  | zero => intro _; rfl
  | succ j ih =>
    intro hj
    unfold cont
    by_cases hji : j = i
    · subst hji
      rw [if_neg (c := m j = true ∧ _) (by rw [hm]; simp)]
      split
      · rename_i h
        rcases hk with hk | hk
        · exact absurd h.2 hk
        · rw [List.getElem?_eq_none hk, cont_none S (by omega)]
          have := S.mono (i := j) (j := j + 1) (by omega) hj
          omega
      · exact ih (by omega)
    · have : upM m i j = m j := by unfold upM; rw [decide_eq_false hji]; rfl
      rw [this]
      split
      · rfl
      · exact ih (by omega)
theorem cont0 : ∀ (j k : Nat), cont H D (fun _ => false) j k = (H 0)[k]?
  | 0, _ => rfl
  | j + 1, k => by
    unfold cont
    rw [if_neg (by simp)]
    exact cont0 j k
def Env.join (e e' : Env) (lo hi : Nat) : Env := ⟨fun k => if lo ≤ k ∧ k < hi then e'.β k else e.β k, fun k => if lo ≤ k ∧ k < hi then e'.κ k else e.κ k⟩
/-- one operation keeps the invariant -/
theorem invStep (S : Stat P x cl ops H T R hR F D) {DD : List Nat} (hDD : ∀ i, i < ops.size → ∀ k, (D i).contains k = true → k ∈ DD) {e0 e e' : Env} {w0 w w' : World} {m : Nat → Bool} {ρ : Nat → Value} (hc : Closed ops m) {i : Nat} {o : Oper} (hi : ops[i]? = some o) (hm : m i = false) (hw : ∀ j, waitsOn .any o j = true → m j = true)
    (hI : InvE B W ops H R D DD e0 w0 m ρ w e) (hsr : SR e' B (hR i) w') (hpo : Po B e (H i).length (D i) w e' (hR i).length w') :
    InvE B W ops H R D DD e0 w0 (upM m i) (updR ρ i ((R i).den e')) w' (e.join e' (H i).length (H (i + 1)).length) := by
  have hin : i < ops.size := (Array.getElem?_eq_some_iff.1 hi).1
  have hstep := S.step hin
  have hle : (H i).length ≤ (H (i + 1)).length := S.mono (Nat.le_succ i) hin
  have h0i : (H 0).length ≤ (H i).length := S.mono (Nat.zero_le i) (by omega)
  generalize he2 : e.join e' (H i).length (H (i + 1)).length = e2
  have E1 : Agr (lt (H (i + 1)).length) e' e2 := fun k hk => by
    have hk := lt_iff.1 hk
    subst he2
    unfold Env.join
    by_cases h : (H i).length ≤ k
    · simp [h, hk]
    · simp only [h, false_and, if_false]
      have := hpo.agr k (lt_iff.2 (by omega))
      exact ⟨this.1.symm, this.2.symm⟩
  have E2 : Agr (outOf H i) e e2 := fun k hk => by
    have hk := outOf_iff.1 hk
    subst he2
    unfold Env.join
    simp only [hk, if_false, and_self]
  have dlt : ∀ k, (D i).contains k = true → k < (H i).length → (F i).contains k = true ∧ ∃ b, (H i)[k]? = some b ∧ b.own = true := fun k h1 h2 => S.dirty i hin k h1 h2
  have cfoot : ∀ k, (F i).contains k = true → k < (H i).length → cont H D m ops.size k = (H i)[k]? := fun k h1 h2 => cont_foot S hc hi hm hw h1 h2
  -- the blocks behind it
  have ctouch : ∀ k, ((D i).contains k = true ∨ (H i).length ≤ k) → k < (H (i + 1)).length → cont H D (upM m i) ops.size k = (hR i)[k]? := fun k h1 h2 => by
    rw [cont_touch S hc hin hm h1 h2, S.next i hin]
    by_cases hlt : k < (H i).length
    · rw [mrg_lt hlt (S.le i hin), if_pos]
      rcases h1 with h1 | h1
      · exact h1
      · omega
    · rw [mrg_ge (by omega)]
  have cother : ∀ k, ¬ (((D i).contains k = true ∨ (H i).length ≤ k) ∧ k < (H (i + 1)).length) → cont H D (upM m i) ops.size k = cont H D m ops.size k := fun k h1 => by
    by_cases hkl : k < (H (i + 1)).length
    · exact cont_other S hin hm (.inl fun h => h1 ⟨h, hkl⟩) (fun _ => hkl) ops.size (Nat.le_refl _)
    · by_cases hd : (D i).contains k = true
      · -- a number that no block bears yet
        have g : ∀ j, j ≤ ops.size → cont H D (upM m i) j k = cont H D m j k := by
          intro j
          induction j with
          | zero => intro _; rfl
          | succ j ih =>
            intro hj
            unfold cont
            by_cases hji : j = i
            · subst hji
              rw [if_neg (c := m j = true ∧ _) (by rw [hm]; simp)]
              split
              · rw [List.getElem?_eq_none (by omega), cont_none S (by omega) (by omega)]
              · exact ih (by omega)
            · have : upM m i j = m j := by unfold upM; rw [decide_eq_false hji]; rfl
              rw [this]
              split
              · rfl
              · exact ih (by omega)
        exact g ops.size (Nat.le_refl _)
      · exact cont_other S hin hm (.inr (by omega)) (fun h => absurd h hd) ops.size (Nat.le_refl _)
  have mOut : ∀ k b, cont H D m ops.size k = some b → b.sc (outOf H i) = true := fun k b h => cont_sc S hc hin hm ops.size k b (Nat.le_refl _) h
  -- an untouched block is not among those turned
  have untouched : ∀ k b, ¬ (((D i).contains k = true ∨ (H i).length ≤ k) ∧ k < (H (i + 1)).length) → cont H D m ops.size k = some b → outOf H i k = true ∧ (b.own = true → w'.heap[e.β k]? = w.heap[e.β k]?) := fun k b h1 hb => by
    refine ⟨outOf_iff.2 fun h => h1 ⟨.inr h.1, h.2⟩, fun hown => ?_⟩
    have hlt := ((hI.blk k b hb).lt hown).2
    refine hpo.fr.block _ hlt fun k2 hk2 hd2 => ?_
    have hd2' : (D i).contains k2 = true := List.contains_iff_mem.2 hd2
    obtain ⟨hf, b2, hb2, ho2⟩ := dlt k2 hd2' hk2
    have hne : k2 ≠ k := fun h => by subst h; exact h1 ⟨.inl hd2', by omega⟩
    exact hI.inj k2 k b2 b (by rw [cfoot k2 hf hk2]; exact hb2) hb ho2 hown hne
  refine ⟨Nat.le_trans hI.size hpo.fr.size, hI.bel.trans hpo.below, fun k b hb => ?_, fun k k' b b' hb hb' ho ho' hne => ?_, fun j hj hmj => ?_, fun k hk => ?_, ?_, fun k hk hs => ?_⟩
  · by_cases ht : ((D i).contains k = true ∨ (H i).length ≤ k) ∧ k < (H (i + 1)).length
    · rw [ctouch k ht.1 ht.2] at hb
      exact (hsr.blk k b hb).agr E1 (lt_iff.2 ht.2) (by rw [hstep]; exact hsr.sc k b hb)
    · rw [cother k ht] at hb
      obtain ⟨g1, g2⟩ := untouched k b ht hb
      exact ((hI.blk k b hb).same hpo.low g2).agr E2 g1 (mOut k b hb)
  · -- two own blocks lie apart
    have old : ∀ k b, ¬ (((D i).contains k = true ∨ (H i).length ≤ k) ∧ k < (H (i + 1)).length) → cont H D (upM m i) ops.size k = some b → cont H D m ops.size k = some b ∧ e2.β k = e.β k := fun k b h1 h2 => by
      rw [cother k h1] at h2
      exact ⟨h2, (E2 k (untouched k b h1 h2).1).1.symm⟩
    have mixed : ∀ k k' b b', ((D i).contains k = true ∨ (H i).length ≤ k) ∧ k < (H (i + 1)).length → ¬ (((D i).contains k' = true ∨ (H i).length ≤ k') ∧ k' < (H (i + 1)).length) →
        cont H D (upM m i) ops.size k = some b → cont H D (upM m i) ops.size k' = some b' → b.own = true → b'.own = true → e2.β k ≠ e2.β k' := fun k k' b b' t1 t2 g1 g2 o1 o2 => by
      obtain ⟨g3, g4⟩ := old k' b' t2 g2
      rw [g4]
      by_cases hkl : k < (H i).length
      · have hd : (D i).contains k = true := by
          rcases t1.1 with h | h
          · exact h
          · omega
        obtain ⟨hf, b2, hb2, ho2⟩ := dlt k hd hkl
        rw [← (E1 k (lt_iff.2 t1.2)).1, ← (hpo.agr k (lt_iff.2 hkl)).1]
        refine hI.inj k k' b2 b' (by rw [cfoot k hf hkl]; exact hb2) g3 ho2 o2 fun h => ?_
        subst h; exact t2 t1
      · rw [← (E1 k (lt_iff.2 t1.2)).1]
        rcases hpo.new k (by omega) (by rw [← hstep]; exact t1.2) with h | ⟨j, hj, hjd, h⟩
        · have := ((hI.blk k' b' g3).lt o2).2
          omega
        · rw [h]
          have hd : (D i).contains j = true := List.contains_iff_mem.2 hjd
          obtain ⟨hf, b2, hb2, ho2⟩ := dlt j hd hj
          refine hI.inj j k' b2 b' (by rw [cfoot j hf hj]; exact hb2) g3 ho2 o2 fun h => ?_
          subst h; exact t2 ⟨.inl hd, by omega⟩
    by_cases t1 : ((D i).contains k = true ∨ (H i).length ≤ k) ∧ k < (H (i + 1)).length <;> by_cases t2 : ((D i).contains k' = true ∨ (H i).length ≤ k') ∧ k' < (H (i + 1)).length
    · rw [ctouch k t1.1 t1.2] at hb
      rw [ctouch k' t2.1 t2.2] at hb'
      rw [← (E1 k (lt_iff.2 t1.2)).1, ← (E1 k' (lt_iff.2 t2.2)).1]
      exact hsr.inj k k' b b' hb hb' ho ho' hne
    · exact mixed k k' b b' t1 t2 hb hb' ho ho'
    · exact (mixed k' k b' b t2 t1 hb' hb ho' ho).symm
    · obtain ⟨g1, g2⟩ := old k b t1 hb
      obtain ⟨g3, g4⟩ := old k' b' t2 hb'
      rw [g2, g4]
      exact hI.inj k k' b b' g1 g3 ho ho' hne
  · by_cases hji : j = i
    · subst hji
      unfold updR
      rw [if_pos rfl]
      exact (R j).den_agr E1 (S.scR hin)
    · have hmj' : m j = true := by
        unfold upM at hmj
        rw [decide_eq_false hji] at hmj
        simpa using hmj
      unfold updR
      rw [if_neg hji, hI.res j hj hmj']
      exact (R j).den_agr E2 ((R j).sc_mono (fun k' g => allowed_out S hc hin hj hm hmj' g) (S.mentR j hj))
  · have hk' := lt_iff.1 hk
    have h1 := hI.agr k hk
    have h2 := E2 k (outOf_iff.2 (by omega))
    exact ⟨h1.1.trans h2.1, h1.2.trans h2.2⟩
  · refine ⟨hpo.fr.os.trans hI.fr.os, hpo.fr.tape.trans hI.fr.tape, hpo.fr.output.trans hI.fr.output, Nat.le_trans hI.fr.size hpo.fr.size, fun b hb hd => ?_⟩
    rw [hpo.fr.block b (Nat.lt_of_lt_of_le hb hI.fr.size) fun k2 hk2 hd2 => ?_, hI.fr.block b hb hd]
    have hd2' : (D i).contains k2 = true := List.contains_iff_mem.2 hd2
    by_cases hlt : k2 < (H 0).length
    · rw [← (hI.agr k2 (lt_iff.2 hlt)).1]
      exact hd k2 hlt (hDD i hin k2 hd2')
    · obtain ⟨hf, b2, hb2, ho2⟩ := dlt k2 hd2' hk2
      rcases hI.new k2 (by omega) (by rw [cfoot k2 hf hk2, hb2]; rfl) with h | ⟨j, hj, hjd, h⟩
      · omega
      · rw [h]; exact hd j hj hjd
  · have viaOld : ∀ j, j < (H i).length → (D i).contains j = true → w0.heap.size ≤ e.β j ∨ ∃ j', j' < (H 0).length ∧ j' ∈ DD ∧ e.β j = e0.β j' := fun j hj hd => by
      by_cases hlt : j < (H 0).length
      · exact .inr ⟨j, hlt, hDD i hin j hd, (hI.agr j (lt_iff.2 hlt)).1.symm⟩
      · obtain ⟨hf, b2, hb2, ho2⟩ := dlt j hd hj
        exact hI.new j (by omega) (by rw [cfoot j hf hj, hb2]; rfl)
    by_cases ht : ((D i).contains k = true ∨ (H i).length ≤ k) ∧ k < (H (i + 1)).length
    · rw [← (E1 k (lt_iff.2 ht.2)).1]
      by_cases hkl : k < (H i).length
      · rw [← (hpo.agr k (lt_iff.2 hkl)).1]
        have hd : (D i).contains k = true := by
          rcases ht.1 with h | h
          · exact h
          · omega
        exact viaOld k hkl hd
      · rcases hpo.new k (by omega) (by rw [← hstep]; exact ht.2) with h | ⟨j, hj, hjd, h⟩
        · exact .inl (Nat.le_trans hI.fr.size h)
        · rw [h]; exact viaOld j hj (List.contains_iff_mem.2 hjd)
    · rw [cother k ht] at hs
      obtain ⟨b, hb⟩ := Option.isSome_iff_exists.1 hs
      rw [← (E2 k (untouched k b ht hb).1).1]
      exact hI.new k hk hs
end
end Go.Proofs.YtpfoifflfgiaoaaGreatDoor
namespace Go.Proofs.YtpfoifflfgiaoaaGreatDoor
open Go Go.RowKit Go.MapKept

mutual
def AV.ids : AV → List Nat
  | .v _ | .n _ _ | .x _ _ | .b _ => []
  | .p k _ => [k]
  | .s k _ _ _ => [k]
  | .a l => idsL l
  | .t l => idsL l
  | .f _ x y => idsL x ++ idsL y
  | .m k => [k]
  | .i _ x => x.ids
def idsL : List AV → List Nat
  | [] => []
  | x :: l => x.ids ++ idsL l
end
def Blk.ids : Blk → List Nat
  | .dead | .iter _ _ => []
  | .ro _ l | .cells _ _ l | .grow _ _ l => idsL l
  | .map es _ => es.flatMap fun x => x.1.ids ++ x.2.1.ids
def addAll : List Nat → List Nat → List Nat
  | [], acc => acc
  | k :: l, acc => addAll l (if acc.contains k then acc else k :: acc)
/-- what can be reached from some numbers: todo, done -/
def reachA (h : List Blk) : Nat → List Nat → List Nat → List Nat
  | 0, _, acc => acc
  | n + 1, todo, acc =>
    let new := addAll (todo.filter fun k => !acc.contains k) []
    match new with
    | [] => acc
    | _ => reachA h n (new.flatMap fun k => match h[k]? with | some b => b.ids | none => []) (new ++ acc)
def roIds (h : List Blk) : List Nat := h.zipIdx.filterMap fun p => match p.1 with | .ro _ _ => some p.2 | _ => none
/-- which blocks an operation may look at: those that its operands reach; none where it touches no memory -/
def footOf (o : Oper) (h : List Blk) (tm : List AV) : List Nat := match o.op with
  | .indexAddr _ (.global _) _ | .fieldAddr _ (.global _) _ => roIds h
  | .move _ | .assign _ | .pick .. | .alloc _ | .box .. | .build .. | .buildSlice .. | .nilCheck _ | .binOp .. | .unOp .. | .makeFunc .. | .makeMap .. | .slice .. | .fieldAddr .. | .field .. | .indexAddr .. | .index .. | .extract .. | .makeInterface .. => []
  | .load _ a | .store _ a _ => (aval h tm a).ids
  | .call _ => reachA h 12 (o.op.operands.toList.flatMap fun y => (aval h tm y).ids) (roIds h)
  | _ => reachA h 12 (o.op.operands.toList.flatMap fun y => (aval h tm y).ids) []
structure Sn where
  s : St
  r : AV
  rs : Rs
  f : List Nat
def snaps (P : Program) (x : Ext) (cl : Cl) (ops : Array Oper) : List Oper → St → Option (List Sn × St)
  | [], s => some ([], s)
  | o :: l, s => match oneR P x cl ops o ⟨s.tm, maskH s.h (footOf o s.h s.tm), s.pa⟩ with
    | some (r, rs) => match snaps P x cl ops l ⟨rs.s.tm, mrg s.h rs.s.h rs.d, rs.s.pa⟩ with
      | some (L, z) => some (⟨s, r, rs, footOf o s.h s.tm⟩ :: L, z)
      | none => none
    | none => none
def snS (L : List Sn) (z : St) (j : Nat) : St := match L[j]? with | some a => a.s | none => z
def snH (L : List Sn) (z : St) (j : Nat) : List Blk := (snS L z j).h
def snT (L : List Sn) (z : St) (j : Nat) : List AV := (snS L z j).tm
def snR (L : List Sn) (j : Nat) : AV := match L[j]? with | some a => a.r | none => .t []
def snHR (L : List Sn) (j : Nat) : List Blk := match L[j]? with | some a => a.rs.s.h | none => []
def snF (L : List Sn) (j : Nat) : List Nat := match L[j]? with | some a => a.f | none => []
def snD (L : List Sn) (j : Nat) : List Nat := match L[j]? with | some a => a.rs.d | none => []
def confA (c a : Sn) (hi : Nat) : Bool := a.f.any (fun k => c.rs.d.contains k || (decide (c.s.h.length ≤ k) && decide (k < hi))) || a.rs.d.any fun k => c.f.contains k
def okS (ops : Array Oper) (L : List Sn) (z : St) : Bool := (List.range ops.size).all fun j => match L[j]?, ops[j]? with
  | some a, some o =>
    decide (a.s.h.length ≤ a.rs.s.h.length) &&
    a.rs.d.all (fun k => decide (a.s.h.length ≤ k) || (a.f.contains k && (match a.s.h[k]? with | some b => b.own | none => false))) &&
    a.r.sc (allowed ops (snH L z) j) &&
    ((a.rs.s.h.zipIdx).all fun p => !(a.rs.d.contains p.2 || decide (a.s.h.length ≤ p.2)) || p.1.sc (allowed ops (snH L z) j)) &&
    ((List.range j).all fun i => match L[i]? with | some c => !(confA c a (snH L z (i + 1)).length) || waitsOn .any o i | none => false)
  | _, _ => false
def drawnA (P : Program) (x : Ext) : Dr := fun cl ops s =>
  if P.follows .mixedOrders && depB .any ops ops.size && Region.noSelect ops then
    match snaps P x cl ops ops.toList s with
    | some (L, z) => if okS ops L z then some ⟨z, L.flatMap (·.rs.ob), L.flatMap (·.rs.d)⟩ else none
    | none => none
  else none

section
variable {P : Program} {B : Nat} {W : World} {x : Ext} {cl : Cl} {ops : Array Oper}
theorem oneR_tm {o : Oper} {s : St} {r : AV} {rs : Rs} (hr : oneR P x cl ops o s = some (r, rs)) : rs.s.tm = setT (settleO ops o s.tm) o.dst r := by
  unfold oneR oneR0 at hr
  split at hr
  · simp only [Option.some.injEq, Prod.mk.injEq] at hr
    obtain ⟨rfl, rfl⟩ := hr; rfl
  · split at hr
    · split at hr <;> try cases hr
      rfl
    · simp only [Option.some.injEq, Prod.mk.injEq] at hr
      obtain ⟨rfl, rfl⟩ := hr; rfl
    · split at hr <;> try cases hr
      split at hr <;> try cases hr
      split at hr <;> try cases hr
      rfl
    · cases hr
  · cases hr
theorem snaps_spec : ∀ (l : List Oper) (s : St) (L : List Sn) (z : St), snaps P x cl ops l s = some (L, z) → L.length = l.length ∧ snS L z 0 = s ∧
    ∀ j o, l[j]? = some o → ∃ a, L[j]? = some a ∧ oneR P x cl ops o ⟨a.s.tm, maskH a.s.h a.f, a.s.pa⟩ = some (a.r, a.rs) ∧ snS L z (j + 1) = ⟨a.rs.s.tm, mrg a.s.h a.rs.s.h a.rs.d, a.rs.s.pa⟩
  | [], s, L, z, h => by
    simp only [snaps, Option.some.injEq, Prod.mk.injEq] at h
    obtain ⟨rfl, rfl⟩ := h
    exact ⟨rfl, rfl, fun j o hj => by simp at hj⟩
  | o :: l, s, L, z, h => by
    unfold snaps at h
    split at h <;> try cases h
    rename_i r rs h1
    split at h <;> try cases h
    rename_i L' h2
    obtain ⟨g1, g2, g3⟩ := snaps_spec l _ L' z h2
    refine ⟨by simp [g1], rfl, fun j oj hj => ?_⟩
    cases j with
    | zero =>
      obtain rfl : o = oj := by simpa using hj
      exact ⟨_, rfl, h1, g2⟩
    | succ j => exact g3 j oj (by simpa using hj)
theorem drawn_any (hx : ExtOk P x) (hn : NoNG P) {cl : Cl} {ops : Array Oper} {s : St} {rs : Rs} (hcl : ClOk P B W cl) (hr : drawnA P x cl ops s = some rs) (ho : ∀ b ∈ rs.ob, b = true) {e : Env} {a : Act} {w : World} (hs : StR P e B W s a w) :
    P.follows .mixedOrders = true ∧ wpAny P .any ops (Ends P B W e s.h.length w .normal rs.s rs.d) ops.size (Array.replicate ops.size false) a w.drew := by
  unfold drawnA at hr
  split at hr <;> try cases hr
  rename_i hB
  simp only [Bool.and_eq_true] at hB
  obtain ⟨⟨hm, hdep⟩, hsel⟩ := hB
  split at hr <;> try cases hr
  rename_i L z hL
  split at hr <;> try cases hr
  rename_i hok
  obtain ⟨hlen, hs0, hsp⟩ := snaps_spec _ _ _ _ hL
  have hlen' : L.length = ops.size := by rw [hlen]; simp
  have at_ : ∀ j o, ops[j]? = some o → ∃ a, L[j]? = some a ∧ oneR P x cl ops o ⟨a.s.tm, maskH a.s.h a.f, a.s.pa⟩ = some (a.r, a.rs) ∧ snS L z (j + 1) = ⟨a.rs.s.tm, mrg a.s.h a.rs.s.h a.rs.d, a.rs.s.pa⟩ := fun j o hj => hsp j o (by simpa using hj)
  have chk : ∀ j, j < ops.size → ∃ a o, L[j]? = some a ∧ ops[j]? = some o ∧ a.s.h.length ≤ a.rs.s.h.length ∧
      (∀ k ∈ a.rs.d, a.s.h.length ≤ k ∨ (a.f.contains k = true ∧ ∃ b, a.s.h[k]? = some b ∧ b.own = true)) ∧ a.r.sc (allowed ops (snH L z) j) = true ∧
      (∀ k b, (a.rs.d.contains k = true ∨ a.s.h.length ≤ k) → a.rs.s.h[k]? = some b → b.sc (allowed ops (snH L z) j) = true) ∧
      (∀ i, i < j → ∃ c, L[i]? = some c ∧ (confA c a (snH L z (i + 1)).length = true → waitsOn .any o i = true)) := fun j hj => by
    have h1 := List.all_eq_true.1 hok j (List.mem_range.2 hj)
    split at h1
    · rename_i a o ha hoo
      simp only [Bool.and_eq_true, decide_eq_true_eq] at h1
      obtain ⟨⟨⟨⟨c1, c2⟩, c3⟩, c4⟩, c5⟩ := h1
      refine ⟨a, o, ha, hoo, c1, fun k hk => ?_, c3, fun k b hkk hb => ?_, fun i hi => ?_⟩
      · have := List.all_eq_true.1 c2 k hk
        simp only [Bool.or_eq_true, decide_eq_true_eq, Bool.and_eq_true] at this
        refine this.imp id fun h => ⟨h.1, ?_⟩
        have h2 := h.2
        split at h2
        · exact ⟨_, by assumption, h2⟩
        · cases h2
      · have := List.all_eq_true.1 c4 (b, k) (by rw [List.mem_zipIdx_iff_getElem?]; exact hb)
        simp only [Bool.or_eq_true, Bool.not_eq_true', Bool.or_eq_false_iff, decide_eq_false_iff_not] at this
        rcases this with h | h
        · rcases hkk with h2 | h2
          · rw [h.1] at h2; cases h2
          · exact absurd h2 h.2
        · exact h
      · have := List.all_eq_true.1 c5 i (List.mem_range.2 hi)
        split at this
        · rename_i c hc
          refine ⟨c, hc, fun h => ?_⟩
          simpa [h] using this
        · cases this
    · cases h1
  have eqs : ∀ (j : Nat) (a : Sn), L[j]? = some a → snH L z j = a.s.h ∧ snT L z j = a.s.tm ∧ snR L j = a.r ∧ snHR L j = a.rs.s.h ∧ snF L j = a.f ∧ snD L j = a.rs.d := fun j a h => by
    simp [snH, snT, snS, snR, snHR, snF, snD, h]
  have hobs : ∀ (j : Nat) (a : Sn), L[j]? = some a → ∀ b ∈ a.rs.ob, b = true := fun j a h b hb => ho b (List.mem_flatMap.2 ⟨a, List.mem_of_getElem? h, hb⟩)
  have hs0h : snH L z 0 = s.h := by simp [snH, hs0]
  have hs0t : snT L z 0 = s.tm := by simp [snT, hs0]
  have hlow : ∀ i o, ops[i]? = some o → ∀ c, waitsOn .any o c = true → c < i := fun i o hio c hw => by
    obtain ⟨o', ho', hl, _⟩ := depB_spec hdep (Array.getElem?_eq_some_iff.1 hio).1
    have : o' = o := Option.some.inj (ho'.symm.trans hio)
    subst this
    obtain ⟨ed, he, hb, hon⟩ := waitsOn_spec hw
    have := hl ed he hb
    omega
  have S : Stat P x cl ops (snH L z) (snT L z) (snR L) (snHR L) (snF L) (snD L) := by
    refine ⟨fun i o hio => ?_, fun i hi => ?_, fun i hi => ?_, fun i hi k hk hkl => ?_, fun i j oj hij hoj k hk => ?_, fun i hi => ?_, fun i hi k b hk hb => ?_, ?_, ?_, hlow⟩
    · obtain ⟨a, ha, h1, h2⟩ := at_ i o hio
      obtain ⟨q1, q2, q3, q4, q5, q6⟩ := eqs i a ha
      exact ⟨a.s.pa, a.rs, by rw [q1, q2, q3, q5]; exact h1, q4.symm, q6.symm, by simp [snT, h2], hobs i a ha⟩
    · obtain ⟨a, ha, h1, h2⟩ := at_ i _ (Array.getElem?_eq_getElem hi)
      obtain ⟨q1, q2, q3, q4, q5, q6⟩ := eqs i a ha
      rw [q1, q4, q6]; simp [snH, h2]
    · obtain ⟨a, o, ha, hoo, c1, _⟩ := chk i hi
      obtain ⟨q1, q2, q3, q4, q5, q6⟩ := eqs i a ha
      rw [q1, q4]; exact c1
    · obtain ⟨a, o, ha, hoo, c1, c2, _⟩ := chk i hi
      obtain ⟨q1, q2, q3, q4, q5, q6⟩ := eqs i a ha
      rw [q6] at hk
      rw [q1] at hkl ⊢
      rw [q5]
      rcases c2 k (List.contains_iff_mem.1 hk) with h | h
      · omega
      · exact h
    · obtain ⟨a, o, ha, hoo, c1, c2, c3, c4, c5⟩ := chk j (Array.getElem?_eq_some_iff.1 hoj).1
      have : o = oj := Option.some.inj (hoo.symm.trans hoj)
      subst this
      obtain ⟨c, hc, hcf⟩ := c5 i hij
      obtain ⟨q1, q2, q3, q4, q5, q6⟩ := eqs j a ha
      obtain ⟨p1, p2, p3, p4, p5, p6⟩ := eqs i c hc
      rw [q5, q6, p1, p5, p6] at hk
      refine hcf ?_
      unfold confA
      simp only [Bool.or_eq_true, List.any_eq_true, Bool.and_eq_true, decide_eq_true_eq]
      rcases hk with ⟨h1, h2⟩ | ⟨h1, h2⟩ | ⟨h1, h2, h3⟩
      · exact .inl ⟨k, List.contains_iff_mem.1 h2, .inl h1⟩
      · exact .inr ⟨k, List.contains_iff_mem.1 h2, h1⟩
      · exact .inl ⟨k, List.contains_iff_mem.1 h1, .inr ⟨h2, h3⟩⟩
    · obtain ⟨a, o, ha, hoo, c1, c2, c3, _⟩ := chk i hi
      rw [(eqs i a ha).2.2.1]; exact c3
    · obtain ⟨a, o, ha, hoo, c1, c2, c3, c4, _⟩ := chk i hi
      obtain ⟨q1, q2, q3, q4, q5, q6⟩ := eqs i a ha
      rw [q4] at hb
      rw [q1, q6] at hk
      exact c4 k b hk hb
    · rw [hs0h]; exact hs.sr.sc
    · rw [hs0h, hs0t]; exact hs.sc
  have hDD : ∀ i, i < ops.size → ∀ k, (snD L i).contains k = true → k ∈ L.flatMap (·.rs.d) := fun i hi k hk => by
    obtain ⟨a, ha, _⟩ := at_ i _ (Array.getElem?_eq_getElem hi)
    rw [(eqs i a ha).2.2.2.2.2] at hk
    exact List.mem_flatMap.2 ⟨a, List.mem_of_getElem? ha, List.contains_iff_mem.1 hk⟩
  -- the frame
  have frame : ∀ e', Agr (lt (snH L z 0).length) e e' → ∀ i, i ≤ ops.size → (layM ops (fun _ => true) (fun j => (snR L j).den e') i a).tmps = (denL e' (snT L z i)).toArray ∧ QuietD P (layM ops (fun _ => true) (fun j => (snR L j).den e') i a).defers := fun e' hag i => by
    induction i with
    | zero =>
      intro _
      refine ⟨?_, hs.df⟩
      show a.tmps = _
      rw [hs0t, hs.tm]
      rw [hs0h] at hag
      rw [denL_agr hag s.tm hs.sc]
    | succ i ih =>
      intro hi
      obtain ⟨ih1, ih2⟩ := ih (by omega)
      obtain ⟨b, hb, h1, h2⟩ := at_ i _ (Array.getElem?_eq_getElem (show i < ops.size by omega))
      have htm : snT L z (i + 1) = setT (settleO ops ops[i] (snT L z i)) ops[i].dst (snR L i) := by
        have := oneR_tm h1
        rw [(eqs i b hb).2.1, (eqs i b hb).2.2.1]
        simp only [snT, h2]
        exact this
      unfold layM
      rw [if_pos rfl, Array.getElem?_eq_getElem (show i < ops.size by omega)]
      simp only
      rw [htm]
      exact ⟨setT_den e' _ _ _ _ (by rw [settleO_den]; exact ih1), by rw [put_defers]; exact ih2⟩
  refine ⟨hm, wpI_any (I := fun m ρ w' => ∃ e', InvE B W ops (snH L z) (snR L) (snD L) (L.flatMap (·.rs.d)) e w.drew m ρ w' e') hdep hsel a ?_ ?_ ?_⟩
  · rintro i o hio m ρ w1 hc hmi hwt ⟨e1, hI⟩
    have hin : i < ops.size := (Array.getElem?_eq_some_iff.1 hio).1
    obtain ⟨pa, rs1, h1, h2, h3, h4, h5⟩ := S.one i o hio
    obtain ⟨f1, f2⟩ := frame e1 hI.agr i (by omega)
    have hsr : SR e1 B (maskH (snH L z i) (snF L i)) w1 := by
      refine ⟨hI.size, fun k b hb => ?_, fun k k' b b' hb hb' ho1 ho2 hne => ?_, fun k b hb => ?_⟩
      · rcases maskH_get hb with ⟨g1, g2⟩ | ⟨_, rfl, _⟩
        · exact hI.blk k b (by rw [cont_foot S hc hio hmi hwt g1 (List.getElem?_eq_some_iff.1 g2).1]; exact g2)
        · trivial
      · rcases maskH_get hb with ⟨g1, g2⟩ | ⟨_, rfl, _⟩
        · rcases maskH_get hb' with ⟨g3, g4⟩ | ⟨_, rfl, _⟩
          · exact hI.inj k k' b b' (by rw [cont_foot S hc hio hmi hwt g1 (List.getElem?_eq_some_iff.1 g2).1]; exact g2) (by rw [cont_foot S hc hio hmi hwt g3 (List.getElem?_eq_some_iff.1 g4).1]; exact g4) ho1 ho2 hne
          · cases ho2
        · cases ho1
      · rw [maskH_length]; exact S.scM hin k b hb
    have hscT : scL (lt (maskH (snH L z i) (snF L i)).length) (snT L z i) = true := by
      rw [maskH_length]
      have key : ∀ n, n ≤ ops.size → scL (lt (snH L z n).length) (snT L z n) = true := by
        intro n
        induction n with
        | zero => intro _; exact S.scT0
        | succ n ih =>
          intro hn
          have ih := ih (by omega)
          obtain ⟨b, hb, g1, g2⟩ := at_ n _ (Array.getElem?_eq_getElem (show n < ops.size by omega))
          have htm : snT L z (n + 1) = setT (settleO ops ops[n] (snT L z n)) ops[n].dst (snR L n) := by
            have := oneR_tm g1
            rw [(eqs n b hb).2.1, (eqs n b hb).2.2.1]
            simp only [snT, g2]
            exact this
          rw [htm]
          exact setT_sc (scL_mono (lt_mono (S.mono (Nat.le_succ n) hn)) _ (settleO_sc ih _ _)) (S.scR (by omega))
      exact key i (by omega)
    have hst : StR P e1 B W ⟨snT L z i, maskH (snH L z i) (snF L i), pa⟩ (layM ops (fun _ => true) (fun j => (snR L j).den e1) i a) w1 := ⟨f1, f2, hscT, hsr, hI.bel⟩
    obtain ⟨g1, g2, g3⟩ := oneR_raw hcl hx hn h1 h5 hst
    simp only [maskH_length] at g3
    rw [h2, h3] at g3
    -- the frame of the walk and this one agree where the operation looks
    have slots : ∀ t ∈ o.looksAt ops, (layM ops (fun _ => true) ρ i a).tmps[t]? = (layM ops (fun _ => true) (fun j => (snR L j).den e1) i a).tmps[t]? := fun t ht =>
      layM_slot2 t i a fun j oj hj hoj hd => by
        obtain ⟨o', ho', _, hdp⟩ := depB_spec hdep hin
        have : o' = o := Option.some.inj (ho'.symm.trans hio)
        subst this
        obtain ⟨oj', hoj', h6⟩ := hdp j (by omega)
        have : oj' = oj := Option.some.inj (hoj'.symm.trans hoj)
        subst this
        exact hI.res j (by omega) (hwt j ((h6 t hd).1 ht))
    unfold StepI
    rw [exec_slots (fun cs b => Region.noSelect_spec hsel i o cs b hio) slots, wanted_slots slots]
    have fin : ∀ e' w', SR e' B (snHR L i) w' → Po B e1 (snH L z i).length (snD L i) w1 e' (snHR L i).length w' → ∃ e'', InvE B W ops (snH L z) (snR L) (snD L) (L.flatMap (·.rs.d)) e w.drew (upM m i) (updR ρ i ((snR L i).den e')) w' e'' := fun e' w' k1 k2 =>
      ⟨_, invStep S hDD hc hio hmi hwt hI k1 k2⟩
    rcases g3 with ⟨k1, k2⟩ | ⟨k1, k2, k3, k4⟩
    · refine .inl ⟨k1, ?_⟩
      rcases k2 with ⟨e', w', l1, l2, l3⟩ | ⟨f, args, l1, l2⟩
      · rcases l1 with l1 | ⟨l1, l4⟩
        · exact .inl ⟨_, w', l1, fin e' w' l2 l3⟩
        · refine .inr (.inl ⟨w', l1, ?_⟩)
          have := fin e' w' l2 l3
          rw [l4] at this
          exact this
      · refine .inr (.inr ⟨f, args, l1, l2.mono ?_⟩)
        rintro en w' ⟨e', rfl, l3, l4⟩
        exact ⟨_, rfl, fin e' w' l3 l4⟩
    · refine .inr ⟨k1, ?_⟩
      have := fin e1 w1 (by rw [k3]; exact hsr) (by rw [k3, k4, maskH_length]; exact Po.refl _ _ _ _)
      rw [k2] at this
      exact this
  · rintro m ρ w1 hall ⟨e1, hI⟩
    have hc : ∀ j k, j ≤ ops.size → cont (snH L z) (snD L) m j k = (snH L z j)[k]? := by
      intro j
      induction j with
      | zero => intro k _; rfl
      | succ j ih =>
        intro k hj
        unfold cont
        split
        · rfl
        · rename_i hno
          rw [ih k (by omega), S.next j (by omega)]
          have hnd : ¬ ((snD L j).contains k = true ∨ (snH L z j).length ≤ k) := fun h => hno ⟨hall j (by omega), h⟩
          rw [mrg_lt (by omega) (S.le j (by omega)), if_neg (fun h => hnd (.inl h))]
    have hz : snS L z ops.size = z := by simp [snS, List.getElem?_eq_none (show L.length ≤ ops.size by omega)]
    have hH : snH L z ops.size = z.h := by simp [snH, hz]
    have hT : snT L z ops.size = z.tm := by simp [snT, hz]
    obtain ⟨f1, f2⟩ := frame e1 hI.agr ops.size (Nat.le_refl _)
    have hlay : layM ops (fun _ => true) ρ ops.size a = layM ops (fun _ => true) (fun j => (snR L j).den e1) ops.size a := layM_congr _ a (fun _ _ => rfl) fun j hj _ => hI.res j hj (hall j hj)
    rw [hlay]
    have hsr : SR e1 B z.h w1 := by
      refine ⟨hI.size, fun k b hb => hI.blk k b (by rw [hc _ _ (Nat.le_refl _), hH]; exact hb), fun k k' b b' hb hb' => hI.inj k k' b b' (by rw [hc _ _ (Nat.le_refl _), hH]; exact hb) (by rw [hc _ _ (Nat.le_refl _), hH]; exact hb'), fun k b hb => ?_⟩
      have := S.scH ops.size (Nat.le_refl _) k b (by rw [hH]; exact hb)
      rwa [hH] at this
    refine ⟨rfl, e1, ⟨by rw [f1, hT], f2, ?_, hsr, hI.bel⟩, ?_⟩
    · have key : ∀ n, n ≤ ops.size → scL (lt (snH L z n).length) (snT L z n) = true := by
        intro n
        induction n with
        | zero => intro _; exact S.scT0
        | succ n ih =>
          intro hn
          have ih := ih (by omega)
          obtain ⟨b, hb, g1, g2⟩ := at_ n _ (Array.getElem?_eq_getElem (show n < ops.size by omega))
          have htm : snT L z (n + 1) = setT (settleO ops ops[n] (snT L z n)) ops[n].dst (snR L n) := by
            have := oneR_tm g1
            rw [(eqs n b hb).2.1, (eqs n b hb).2.2.1]
            simp only [snT, g2]
            exact this
          rw [htm]
          exact setT_sc (scL_mono (lt_mono (S.mono (Nat.le_succ n) hn)) _ (settleO_sc ih _ _)) (S.scR (by omega))
      have := key ops.size (Nat.le_refl _)
      rwa [hH, hT] at this
    · have hm0 := S.mono (i := 0) (j := ops.size) (Nat.zero_le _) (Nat.le_refl _)
      rw [hs0h, hH] at hm0
      have hagr := hI.agr
      have hfr := hI.fr
      have hnew := hI.new
      rw [hs0h] at hagr hfr hnew
      refine ⟨hagr, ⟨hfr.os, hfr.tape, hfr.output, hfr.size, hfr.block⟩, hm0, fun k h1 h2 => ?_, fun g hg => ?_⟩
      · exact hnew k h1 (by rw [hc _ _ (Nat.le_refl _), hH, List.getElem?_eq_getElem h2]; rfl)
      · rw [hI.bel.block g hg, hs.bel.block g hg]
  · refine ⟨e, ⟨hs.sr.size, hs.bel.drew, fun k b hb => ?_, fun k k' b b' hb hb' ho1 ho2 hne => ?_, fun j _ h => (by cases h), Agr.refl _ _, ?_, fun k hk hsm => ?_⟩⟩
    · rw [cont0, hs0h] at hb
      exact hs.sr.drew.blk k b hb
    · rw [cont0, hs0h] at hb hb'
      exact hs.sr.inj k k' b b' hb hb' ho1 ho2 hne
    · exact ⟨rfl, rfl, rfl, Nat.le_refl _, fun _ _ _ => rfl⟩
    · rw [cont0, List.getElem?_eq_none hk] at hsm; cases hsm
theorem drawn_ok (hx : ExtOk P x) (hn : NoNG P) : DrOk P B W (drawnA P x) := by
  intro cl ops s rs hcl hr ho e a w rid hs
  obtain ⟨hm, h⟩ := drawn_any hx hn hcl hr ho hs
  exact wp_region_any hm h
end
end Go.Proofs.YtpfoifflfgiaoaaGreatDoor
