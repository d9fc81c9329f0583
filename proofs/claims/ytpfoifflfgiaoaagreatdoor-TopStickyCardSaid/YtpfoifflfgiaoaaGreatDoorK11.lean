/- The evaluator: builtins, regions, deferred calls. -/
import Derived.Test.YtpfoifflfgiaoaaGreatDoorK10
import Derived.Defers
import Derived.LoopN
import Derived.Scope
set_option linter.unusedVariables false
set_option linter.unusedSimpArgs false
namespace Go.Proofs.YtpfoifflfgiaoaaGreatDoor
open Go Go.RowKit Go.MapKept

inductive AAct where
  | val (r : AV)
  | skip
  | enter (f : FuncId) (args : List AV)
structure Out where
  act : AAct
  h : List Blk
  pa : List Nat
  ob : List Bool
  d : List Nat
def globAt : List Blk → Nat → Nat → Option Nat
  | [], _, _ => none
  | .ro g' _ :: l, g, k => if g' = g then some k else globAt l g (k + 1)
  | _ :: l, g, k => globAt l g (k + 1)
def aval (h : List Blk) (tm : List AV) : Operand → AV
  | .tmp t => (tm[t]?).getD (.t [])
  | .const v => lift v
  | .global g => match globAt h g 0 with
    | some k => .p k 0
    | none => .v (.pointer (some ⟨g, 0, none⟩))
  | .func f => .f (.func f) [] []
/-- calls of functions without a body -/
abbrev Ext := FuncId → List AV → Option AV
def entA (P : Program) (x : Ext) (f : FuncId) (args : List AV) : Option AAct :=
  match P.funcs[f]? with
  | some fn => if fn.body.isSome then some (.enter f args) else match x f args with
    | some r => some (.val r)
    | none => none
  | none => none
def aop (P : Program) (x : Ext) (o : Oper) (h : List Blk) (tm : List AV) (pa : List Nat) : Option Out :=
  let ρ := aval h tm
  let q (r : Option AV) : Option Out := match r with | some r => some ⟨.val r, h, pa, [], []⟩ | none => none
  let dq (r : Option (AV × List Nat × List Bool)) : Option Out := match r with | some (r, pa', ob) => some ⟨.val r, h, pa', ob, []⟩ | none => none
  let nw (r : Option (AV × List Blk)) : Option Out := match r with | some (r, h') => some ⟨.val r, h', pa, [], []⟩ | none => none
  let st (r : Option (List Blk × List Nat)) : Option Out := match r with | some (h', d) => some ⟨.skip, h', pa, [], d⟩ | none => none
  let dn (r : Option (AV × List Blk × List Nat)) : Option Out := match r with | some (r, h', d) => some ⟨.val r, h', pa, [], d⟩ | none => none
  match o.op with
  | .move x | .assign x => some ⟨.val (ρ x), h, pa, [], []⟩
  | .pick c a b => dq (opPick (ρ c) (ρ a) (ρ b) pa)
  | .alloc t => nw (opAlloc P t h)
  | .box t v => nw (opBox t (ρ v) h)
  | .build t ps => q (opBuild P t (ps.toList.map fun p => (p.1, ρ p.2)))
  | .buildSlice t n ps => nw (opBuildSlice P t n (ps.toList.map fun p => (p.1, ρ p.2)) h)
  | .load t a => q (opLoad P t (ρ a) h)
  | .store t a v => st (opStore P t (ρ a) (ρ v) h)
  | .nilCheck v => q (opNilCheck (ρ v))
  | .binOp op t v y _ => dq (opBin P op t (ρ v) (ρ y) pa)
  | .unOp op _ v => q (opUn op (ρ v))
  | .convert src dst v => match opConvI P src dst (ρ v) with
    | some r => some ⟨.val r, h, pa, [], []⟩
    | none => nw (opConvH P src dst (ρ v) h)
  | .makeSlice t l c => nw (opMakeSlice P t (ρ l) (ρ c) h)
  | .range t v => nw (opRange P t (ρ v) h)
  | .next it isString => dn (opNext (ρ it) isString h)
  | .makeFunc fn first cap => some ⟨.val (.f fn (first.toList.map ρ) (cap.toList.map ρ)), h, pa, [], []⟩
  | .makeMap _ none => nw (some (opMakeMap h))
  | .mapUpdate t m k v | .insert t m k v => st (opInsert P t (ρ m) (ρ k) (ρ v) h)
  | .slice t v lo hi mx => dq (opSlice P t (ρ v) (lo.map ρ) (hi.map ρ) (mx.map ρ) pa)
  | .fieldAddr s v f => q (opFieldAddr P s (ρ v) f)
  | .field t v f => q (opField P t (ρ v) f)
  | .indexAddr t v ix => dq (opIndexAddr P t (ρ v) (ρ ix) pa)
  | .index t v ix => dq (opIndex P t (ρ v) (ρ ix) pa)
  | .lookup t m k ok => dq (opLookup P t (ρ m) (ρ k) ok h pa)
  | .extract v ix => q (opExtract (ρ v) ix)
  | .call c => match c.callee with
    | .value f => match ρ f with
      | .f (.func g) first cap => match entA P x g (first ++ c.args.toList.map ρ ++ cap) with
        | some a => some ⟨a, h, pa, [], []⟩
        | none => none
      | _ => none
    | .builtin .len => match c.argTypes.toList, c.args.toList with
      | [t], [v] => q (opLen P t (ρ v) h)
      | _, _ => none
    | .builtin .append => match c.args.toList with
      | [y, z] => dn (opAppend P c.argTypes.toList (ρ y) (ρ z) h)
      | _ => none
    | .builtin .unsafeSliceData => match c.args.toList with
      | [y] => q (opSliceData (ρ y) h)
      | _ => none
    | .builtin .unsafeString => match c.args.toList with
      | [y, z] => dn (opUnsafeString P c.argTypes.toList (ρ y) (ρ z) h)
      | _ => none
    | .builtin .max => match c.args.toList.map ρ with
      | v :: l => q (opMms true v l)
      | [] => none
    | .builtin .min => match c.args.toList.map ρ with
      | v :: l => q (opMms false v l)
      | [] => none
    | _ => none
  | _ => none

section
variable {P : Program} {e : Env} {B : Nat} {h : List Blk} {w : World} {x : Ext}
theorem globAt_ok : ∀ (l : List Blk) (g k j : Nat), globAt l g k = some j → k ≤ j ∧ ∃ c, l[j - k]? = some (.ro g c)
  | [], _, _, _, hg => by cases hg
  | b :: l, g, k, j, hg => by
    have next : globAt l g (k + 1) = some j → k ≤ j ∧ ∃ c, (b :: l)[j - k]? = some (.ro g c) := fun h => by
      obtain ⟨h1, c, h2⟩ := globAt_ok l g (k + 1) j h
      exact ⟨by omega, c, by rw [show j - k = (j - (k + 1)) + 1 by omega, List.getElem?_cons_succ]; exact h2⟩
    cases b with
    | ro g' c =>
      unfold globAt at hg
      split at hg
      · rename_i hgg
        subst hgg
        obtain rfl := Option.some.inj hg
        exact ⟨Nat.le_refl _, c, by simp⟩
      · exact next hg
    | _ => exact next hg
theorem aval_den (hs : SR e B h w) {tm : List AV} {a : Act} (ha : a.tmps = (denL e tm).toArray) (o : Operand) : (aval h tm o).den e = a.eval o := by
  cases o with
  | tmp t =>
    simp only [aval, Act.eval, ha]
    have : (denL e tm).toArray.getD t undef = ((denL e tm)[t]?).getD undef := by
      simp [Array.getD_eq_getD_getElem?]
    rw [this, denL_get]
    cases tm[t]? <;> rfl
  | const v => exact lift_den e v
  | global g =>
    simp only [aval, Act.eval]
    split
    · rename_i k hk
      obtain ⟨_, c, hc⟩ := globAt_ok h g 0 k hk
      rw [Nat.sub_zero] at hc
      have := hs.blk k _ hc
      simp only [BR] at this
      simp only [AV.den, this.1]
    · rfl
  | func f => rfl
theorem aval_sc {tm : List AV} (ht : scL (lt h.length) tm = true) (o : Operand) : (aval h tm o).sc (lt h.length) = true := by
  cases o with
  | tmp t =>
    simp only [aval]
    cases hx : tm[t]? with
    | none => rfl
    | some y => rw [scL_all] at ht; exact List.all_eq_true.1 ht y (List.mem_of_getElem? hx)
  | const v =>
    simp only [aval]
    have l0 : ∀ v, (lift0 v).sc (lt h.length) = true := fun v => by unfold lift0; split <;> rfl
    have l1 : ∀ cs : List Value, scL (lt h.length) (cs.map lift0) = true := fun cs => by
      rw [scL_all]
      refine List.all_eq_true.2 fun y hy => ?_
      obtain ⟨z, _, rfl⟩ := List.mem_map.1 hy
      exact l0 z
    unfold lift
    split
    · exact l1 _
    · exact l1 _
    · exact l0 v
  | global g =>
    simp only [aval]
    split
    · rename_i k hk
      obtain ⟨_, c, hc⟩ := globAt_ok h g 0 k hk
      rw [Nat.sub_zero] at hc
      exact lt_iff.2 (List.getElem?_eq_some_iff.1 hc).1
    · rfl
  | func f => rfl
/-- calls of functions without a body; and deferred functions that do nothing on the way out -/
structure ExtOk (P : Program) (x : Ext) : Prop where
  plain : ∀ (f : FuncId) (fn : Func) (args : List AV) (r : AV) (e : Env) (w : World), P.funcs[f]? = some fn → fn.body.isSome = false → x f args = some r → (callFunc f (denL e args).toArray).run P w = .ok (.value (r.den e)) w
  quiet : ∀ (f : FuncId) (fn : Func) (args : List AV) (r : AV) (e : Env) (w : World), P.funcs[f]? = some fn → fn.body.isSome = true → x f args = some r → CallsD P f (denL e args).toArray .returning w fun en u w' => (∃ v, en = .returned v) ∧ u = .returning ∧ Below w.heap.size w w'
/-- what the run of an operation is -/
def OpDoes (P : Program) (e : Env) (B : Nat) (h : List Blk) (w : World) (run : Result Next) (out : Out) : Prop :=
  match out.act with
  | .val r => ∃ e' w', run = .ok (.value (r.den e')) w' ∧ SR e' B out.h w' ∧ Po B e h.length out.d w e' out.h.length w'
  | .skip => ∃ e' w', run = .ok .skip w' ∧ SR e' B out.h w' ∧ Po B e h.length out.d w e' out.h.length w'
  | .enter f args => run = .ok (.enter f (denL e args).toArray) w ∧ out.h = h ∧ out.d = [] ∧ (∃ fn c, P.funcs[f]? = some fn ∧ fn.body = some c)
end
end Go.Proofs.YtpfoifflfgiaoaaGreatDoor
namespace Go.Proofs.YtpfoifflfgiaoaaGreatDoor
open Go Go.RowKit Go.MapKept

def NoNG (P : Program) : Prop := ∀ (f : FuncId) (fn : Func), P.funcs[f]? = some fn → (fn.name == "runtime.NumGoroutine") = false
section
variable {P : Program} {e : Env} {B : Nat} {h : List Blk} {w : World} {x : Ext}
theorem OpDoes.quiet {run : Result Next} {r : AV} {pa : List Nat} {ob : List Bool} (hs : SR e B h w) (hr : run = .ok (.value (r.den e)) w) : OpDoes P e B h w run ⟨.val r, h, pa, ob, []⟩ :=
  ⟨e, w, hr, hs, Po.refl _ _ _ _⟩
theorem OpDoes.of {run : Result Value} {r : AV} {h' : List Blk} {d : List Nat} {pa : List Nat} {ob : List Bool} (hd : Does e B h w run r h' d) : OpDoes P e B h w (run.andThen fun v w => .ok (.value v) w) ⟨.val r, h', pa, ob, d⟩ := by
  obtain ⟨e', w', h1, h2, h3⟩ := hd
  exact ⟨e', w', by rw [h1]; rfl, h2, h3⟩
theorem denL_append (e : Env) (l l' : List AV) : denL e (l ++ l') = denL e l ++ denL e l' := by simp [denL_map]
theorem entA_ok {f : FuncId} {args : List AV} {act : AAct} {pa : List Nat} {ob : List Bool} (hs : SR e B h w) (hx : ExtOk P x) (hn : NoNG P) (hr : entA P x f args = some act) :
    OpDoes P e B h w ((callFunc f (denL e args).toArray).run P w) ⟨act, h, pa, ob, []⟩ := by
  unfold entA at hr
  split at hr <;> try cases hr
  rename_i fn hf
  split at hr
  · rename_i hb
    obtain rfl := Option.some.inj hr
    have hname := hn f fn hf
    have hb' : fn.body.isNone = false := by cases h : fn.body <;> simp_all
    refine ⟨?_, rfl, rfl, fn, ?_⟩
    · simp only [callFunc, Sem.run_bind, run_program, Result.andThen_ok, hf, hname, Bool.false_eq_true, if_false, hb', Sem.run_pure]
    · cases h : fn.body with
      | none => rw [h] at hb; cases hb
      | some c => exact ⟨c, hf, rfl⟩
  · rename_i hb
    split at hr <;> try cases hr
    rename_i r hxr
    exact .quiet hs (hx.plain f fn args r e w hf (by simpa using hb) hxr)
theorem aop_ok {o : Oper} {tm : List AV} {pa : List Nat} {out : Out} {a : Act} (hs : SR e B h w) (hx : ExtOk P x) (hn : NoNG P) (ha : a.tmps = (denL e tm).toArray)
    (hr : aop P x o h tm pa = some out) (ho : ∀ b ∈ out.ob, b = true) : OpDoes P e B h w ((execOp a.eval o).run P w) out := by
  have hv : ∀ y, a.eval y = (aval h tm y).den e := fun y => (aval_den hs ha y).symm
  have hparts : ∀ ps : Array (Nat × Operand), (ps.map fun (i, y) => (i, a.eval y)) = ((ps.toList.map fun p => (p.1, aval h tm p.2)).map fun p => (p.1, p.2.den e)).toArray := fun ps => by
    apply Array.ext'
    simp only [Array.toList_map, List.map_map]
    apply List.map_congr_left
    intro p _
    simp [Function.comp, hv]
  have hargs : ∀ l : Array Operand, l.map a.eval = (denL e (l.toList.map (aval h tm))).toArray := fun l => by
    apply Array.ext'
    simp only [Array.toList_map, denL_map, List.map_map]
    apply List.map_congr_left
    intro p _
    simp [Function.comp, hv]
  unfold aop at hr
  unfold execOp
  have qq : ∀ {r : Option AV} {run : Result Value}, (match r with | some r => some ⟨.val r, h, pa, [], []⟩ | none => none : Option Out) = some out → (∀ r', r = some r' → run = .ok (r'.den e) w) → OpDoes P e B h w (run.andThen fun v w => .ok (.value v) w) out := fun {r run} h1 h2 => by
    cases r with
    | none => cases h1
    | some r => obtain rfl := Option.some.inj h1; rw [h2 r rfl]; exact .quiet hs rfl
  have dd : ∀ {r : Option (AV × List Nat × List Bool)} {run : Result Value}, (match r with | some (r, pa', ob) => some ⟨.val r, h, pa', ob, []⟩ | none => none : Option Out) = some out → (∀ r' pa' ob, r = some (r', pa', ob) → (∀ b ∈ ob, b = true) → run = .ok (r'.den e) w) → OpDoes P e B h w (run.andThen fun v w => .ok (.value v) w) out := fun {r run} h1 h2 => by
    cases r with
    | none => cases h1
    | some r => obtain ⟨r, pa', ob⟩ := r; obtain rfl := Option.some.inj h1; rw [h2 r pa' ob rfl ho]; exact .quiet hs rfl
  have nn : ∀ {r : Option (AV × List Blk)} {run : Result Value}, (match r with | some (r, h') => some ⟨.val r, h', pa, [], []⟩ | none => none : Option Out) = some out → (∀ r' h', r = some (r', h') → Does e B h w run r' h' []) → OpDoes P e B h w (run.andThen fun v w => .ok (.value v) w) out := fun {r run} h1 h2 => by
    cases r with
    | none => cases h1
    | some r => obtain ⟨r, h'⟩ := r; obtain rfl := Option.some.inj h1; exact .of (h2 r h' rfl)
  have ss : ∀ {r : Option (List Blk × List Nat)} {run : Result Unit}, (match r with | some (h', d) => some ⟨.skip, h', pa, [], d⟩ | none => none : Option Out) = some out → (∀ h' d, r = some (h', d) → ∃ w', run = .ok () w' ∧ SR e B h' w' ∧ Po B e h.length d w e h'.length w') → OpDoes P e B h w (run.andThen fun _ w => .ok .skip w) out := fun {r run} h1 h2 => by
    cases r with
    | none => cases h1
    | some r =>
      obtain ⟨h', d⟩ := r
      obtain rfl := Option.some.inj h1
      obtain ⟨w', r1, r2, r3⟩ := h2 h' d rfl
      exact ⟨e, w', by rw [r1]; rfl, r2, r3⟩
  have dd2 : ∀ {r : Option (AV × List Blk × List Nat)} {run : Result Value}, (match r with | some (r, h', d) => some ⟨.val r, h', pa, [], d⟩ | none => none : Option Out) = some out → (∀ r' h' d, r = some (r', h', d) → Does e B h w run r' h' d) → OpDoes P e B h w (run.andThen fun v w => .ok (.value v) w) out := fun {r run} h1 h2 => by
    cases r with
    | none => cases h1
    | some r => obtain ⟨r, h', d⟩ := r; obtain rfl := Option.some.inj h1; exact .of (h2 r h' d rfl)
  have bnd : ∀ s : Sem Value, (do let v ← s; pure (Next.value v) : Sem Next).run P w = (s.run P w).andThen fun v w => .ok (.value v) w := fun s => by simp only [Sem.run_bind, Sem.run_pure]
  have bnu : ∀ s : Sem Unit, (do s; pure Next.skip : Sem Next).run P w = (s.run P w).andThen fun _ w => .ok .skip w := fun s => by simp only [Sem.run_bind, Sem.run_pure]
  cases hop : o.op <;> simp only [hop] at hr ⊢ <;> try (cases hr; done)
  case move y => obtain rfl := Option.some.inj hr; exact .quiet hs (by rw [hv]; rfl)
  case assign y => obtain rfl := Option.some.inj hr; exact .quiet hs (by rw [hv]; rfl)
  case pick c y z =>
    have : (do let t ← asBool (a.eval c); pure (Next.value (if t then a.eval y else a.eval z)) : Sem Next).run P w = ((do let t ← asBool (a.eval c); pure (if t then a.eval y else a.eval z) : Sem Value).run P w).andThen fun v w => .ok (.value v) w := by
      rw [hv c]
      cases (aval h tm c).den e <;> rfl
    refine this ▸ dd hr fun r' pa' ob h1 h2 => ?_
    unfold opPick at h1
    split at h1 <;> try cases h1
    rename_i t hd
    rw [hv c, decB_ok hd h2, hv y, hv z]
    cases t <;> rfl
  case alloc t => rw [bnd]; exact nn hr fun r' h' h1 => opAlloc_ok hs h1 _
  case box t y => rw [bnd, hv]; exact nn hr fun r' h' h1 => opBox_ok hs h1
  case build t ps => rw [bnd, hparts]; exact qq hr fun r' h1 => opBuild_ok h1
  case buildSlice t n ps => rw [bnd, hparts]; exact nn hr fun r' h' h1 => opBuildSlice_ok hs h1
  case load t y => rw [bnd, hv]; exact qq hr fun r' h1 => opLoad_ok hs h1
  case store t y z => rw [bnu, hv, hv]; exact ss hr fun h' d h1 => opStore_ok hs h1
  case nilCheck y =>
    cases hq : opNilCheck (aval h tm y) with
    | none => rw [hq] at hr; cases hr
    | some r =>
      rw [hq] at hr
      obtain rfl := Option.some.inj hr
      refine .quiet hs ?_
      rw [hv]
      unfold opNilCheck at hq
      split at hq <;> try cases hq
      all_goals (rename_i heq; rw [heq]; rfl)
  case binOp op t y z yt =>
    rw [bnd, hv, hv]; exact dd hr fun r' pa' ob h1 h2 => opBin_ok h1 h2 _ _
  case unOp op t y => rw [bnd, hv]; exact qq hr fun r' h1 => opUn_ok h1
  case convert src dst y =>
    rw [bnd, hv]
    split at hr
    · rename_i r' h1
      obtain rfl := Option.some.inj hr
      rw [opConvI_ok h1]; exact .quiet hs rfl
    · exact nn hr fun r' h' h1 => opConvH_ok hs h1
  case makeSlice t l c => rw [bnd, hv, hv]; exact nn hr fun r' h' h1 => opMakeSlice_ok hs h1
  case range t y => rw [bnd, hv]; exact nn hr fun r' h' h1 => opRange_ok hs h1
  case next it isString => rw [bnd, hv]; exact dd2 hr fun r' h' d h1 => opNext_ok o.type hs h1
  case makeFunc fn first cap =>
    obtain rfl := Option.some.inj hr
    refine .quiet hs ?_
    simp only [Instr.makeFunc, Sem.run_bind, Sem.run_pure, Result.andThen_ok, AV.den, hargs]
  case makeMap t r =>
    cases r with
    | none =>
      simp only at hr
      obtain rfl := Option.some.inj hr
      rw [Option.map_none, bnd]
      exact .of (opMakeMap_ok hs t)
    | some y => cases hr
  case mapUpdate t m k y => rw [bnu, hv, hv, hv]; exact ss hr fun h' d h1 => opInsert_ok hs h1
  case insert t m k y => rw [bnu, hv, hv, hv]; exact ss hr fun h' d h1 => opInsert_ok hs h1
  case slice t y lo hi mx =>
    have hm : ∀ z : Option Operand, z.map a.eval = (z.map (aval h tm)).map (·.den e) := fun z => by cases z <;> simp [hv]
    rw [bnd, hv, hm, hm, hm]
    exact dd hr fun r' pa' ob h1 h2 => opSlice_ok h1 h2
  case fieldAddr s y f => rw [bnd, hv]; exact qq hr fun r' h1 => opFieldAddr_ok h1
  case field s y f => rw [bnd, hv]; exact qq hr fun r' h1 => opField_ok h1
  case indexAddr t y ix => rw [bnd, hv, hv]; exact dd hr fun r' pa' ob h1 h2 => opIndexAddr_ok h1 h2
  case index t y ix => rw [bnd, hv, hv]; exact dd hr fun r' pa' ob h1 h2 => opIndex_ok h1 h2
  case lookup t m k ok => rw [bnd, hv, hv]; exact dd hr fun r' pa' ob h1 h2 => opLookup_ok hs h1 h2
  case extract y ix => rw [bnd, hv]; exact qq hr fun r' h1 => opExtract_ok h1
  case call c =>
    cases hc : c.callee with
    | invoke r m => rw [hc] at hr; cases hr
    | value f =>
      rw [hc] at hr
      simp only at hr
      split at hr <;> try cases hr
      rename_i fv g first cap heq
      split at hr <;> try cases hr
      rename_i act hent
      have hf : a.eval f = .func (.func g) (denL e first).toArray (denL e cap).toArray := by rw [hv, heq]; rfl
      simp only [resolve, hc, hf, Deferred.ofValue, Sem.run_bind, Sem.run_pure, Result.andThen_ok, invoke, hargs]
      have := entA_ok (pa := pa) (ob := []) hs hx hn hent
      rwa [denL_append, denL_append, List.append_assoc, ← List.append_toArray, ← List.append_toArray, ← Array.append_assoc] at this
    | builtin b =>
      rw [hc] at hr
      cases b <;> simp only at hr <;> try (cases hr; done)
      case len =>
        split at hr <;> try cases hr
        rename_i t v h1 h2
        have e1 : c.argTypes = #[t] := by rw [← Array.toList_inj]; exact h1
        have e2 : c.args = #[v] := by rw [← Array.toList_inj]; exact h2
        simp only [resolve, hc, e1, e2, Sem.run_bind, Sem.run_pure, Result.andThen_ok, invoke, builtin, List.map_toArray, List.map_cons, List.map_nil, hv]
        exact qq hr fun r' h1 => opLen_ok h1
      case append =>
        split at hr <;> try cases hr
        rename_i y z h2
        have e2 : c.args = #[y, z] := by rw [← Array.toList_inj]; exact h2
        simp only [resolve, hc, e2, Sem.run_bind, Sem.run_pure, Result.andThen_ok, invoke, builtin, List.map_toArray, List.map_cons, List.map_nil, hv]
        exact dd2 hr fun r' h' d h1 => by have := opAppend_ok o.type hs h1; rwa [Array.toArray_toList] at this
      case unsafeSliceData =>
        split at hr <;> try cases hr
        rename_i y h2
        have e2 : c.args = #[y] := by rw [← Array.toList_inj]; exact h2
        simp only [resolve, hc, e2, Sem.run_bind, Sem.run_pure, Result.andThen_ok, invoke, builtin, List.map_toArray, List.map_cons, List.map_nil, hv]
        exact qq hr fun r' h1 => opSliceData_ok _ _ hs h1
      case unsafeString =>
        split at hr <;> try cases hr
        rename_i y z h2
        have e2 : c.args = #[y, z] := by rw [← Array.toList_inj]; exact h2
        simp only [resolve, hc, e2, Sem.run_bind, Sem.run_pure, Result.andThen_ok, invoke, builtin, List.map_toArray, List.map_cons, List.map_nil, hv]
        exact dd2 hr fun r' h' d h1 => by have := opUnsafeString_ok o.type hs h1; rwa [Array.toArray_toList] at this
      case max =>
        split at hr <;> try cases hr
        rename_i v l h1
        have e2 : (c.args.map a.eval).toList = v.den e :: denL e l := by rw [hargs, h1]; simp [denL]
        simp only [resolve, hc, Sem.run_bind, Sem.run_pure, Result.andThen_ok, invoke, builtin, Builtin.max_, e2]
        exact qq hr fun r' h1 => opMms_max l v r' h1
      case min =>
        split at hr <;> try cases hr
        rename_i v l h1
        have e2 : (c.args.map a.eval).toList = v.den e :: denL e l := by rw [hargs, h1]; simp [denL]
        simp only [resolve, hc, Sem.run_bind, Sem.run_pure, Result.andThen_ok, invoke, builtin, Builtin.min_, e2]
        exact qq hr fun r' h1 => opMms_min l v r' h1
end
end Go.Proofs.YtpfoifflfgiaoaaGreatDoor
namespace Go.Proofs.YtpfoifflfgiaoaaGreatDoor
open Go Go.RowKit Go.MapKept

/-! values are brought to their normal form on the way: for the kernel's sake -/
def fNat {β : Type} (n : Nat) (K : Nat → β) : β := match n with
  | 0 => K 0
  | n + 1 => K (Nat.succ n)
def fInt {β : Type} (i : Int) (K : Int → β) : β := match i with
  | .ofNat n => fNat n fun n => K (.ofNat n)
  | .negSucc n => fNat n fun n => K (.negSucc n)
theorem fNat_eq {β : Type} (n : Nat) (K : Nat → β) : fNat n K = K n := by cases n <;> rfl
theorem fInt_eq {β : Type} (i : Int) (K : Int → β) : fInt i K = K i := by cases i <;> simp [fInt, fNat_eq]
mutual
def fAV {β : Type} : AV → (AV → β) → β
  | .v x, K => K (.v x)
  | .n k i, K => fInt i fun i => K (.n k i)
  | .x k i, K => K (.x k i)
  | .b true, K => K (.b true)
  | .b false, K => K (.b false)
  | .p k o, K => fNat k fun k => fNat o fun o => K (.p k o)
  | .s k o n none, K => fNat k fun k => fNat o fun o => fNat n fun n => K (.s k o n none)
  | .s k o n (some c), K => fNat k fun k => fNat o fun o => fNat n fun n => fNat c fun c => K (.s k o n (some c))
  | .a l, K => fL l fun l => K (.a l)
  | .t l, K => fL l fun l => K (.t l)
  | .f fn x y, K => fL x fun x => fL y fun y => K (.f fn x y)
  | .m k, K => fNat k fun k => K (.m k)
  | .i ty x, K => fAV x fun x => K (.i ty x)
def fL {β : Type} : List AV → (List AV → β) → β
  | [], K => K []
  | x :: l, K => fAV x fun x => fL l fun l => K (x :: l)
end
mutual
theorem fAV_eq {β : Type} : ∀ (x : AV) (K : AV → β), fAV x K = K x
  | .v x, K => rfl
  | .n k i, K => by simp only [fAV, fInt_eq]
  | .x k i, K => rfl
  | .b true, K => rfl
  | .b false, K => rfl
  | .p k o, K => by simp only [fAV, fNat_eq]
  | .s k o n none, K => by simp only [fAV, fNat_eq]
  | .s k o n (some c), K => by simp only [fAV, fNat_eq]
  | .a l, K => by simp only [fAV, fL_eq l]
  | .t l, K => by simp only [fAV, fL_eq l]
  | .f fn x y, K => by simp only [fAV, fL_eq x, fL_eq y]
  | .m k, K => by simp only [fAV, fNat_eq]
  | .i ty x, K => by simp only [fAV, fAV_eq x]
theorem fL_eq {β : Type} : ∀ (l : List AV) (K : List AV → β), fL l K = K l
  | [], K => rfl
  | x :: l, K => by simp only [fL, fAV_eq x, fL_eq l]
end
def fBlk {β : Type} : Blk → (Blk → β) → β
  | .cells el fz l, K => fL l fun l => K (.cells el fz l)
  | .grow el sz l, K => fL l fun l => K (.grow el sz l)
  | b, K => K b
theorem fBlk_eq {β : Type} (b : Blk) (K : Blk → β) : fBlk b K = K b := by cases b <;> simp only [fBlk, fL_eq]
def fH {β : Type} : List Blk → (List Blk → β) → β
  | [], K => K []
  | b :: l, K => fBlk b fun b => fH l fun l => K (b :: l)
theorem fH_eq {β : Type} : ∀ (l : List Blk) (K : List Blk → β), fH l K = K l
  | [], K => rfl
  | b :: l, K => by simp only [fH, fBlk_eq, fH_eq l]

structure St where
  tm : List AV
  h : List Blk
  pa : List Nat
structure Rs where
  s : St
  ob : List Bool
  d : List Nat
abbrev Cl := FuncId → List AV → List Blk → List Nat → Option (AV × List Blk × List Nat × List Bool × List Nat)
def setT (tm : List AV) (dst : Option Nat) (r : AV) : List AV := match dst with | some d => tm.set d r | none => tm
def wantedA (ops : Array Oper) (o : Oper) (tm : List AV) (pa : List Nat) : Dec :=
  match o.guard with
  | none => some (true, pa, [])
  | some (j, want) => match (ops[j]?).bind (·.dst) with
    | none => some (false, pa, [])
    | some t => match tm[t]? with
      | some (.b y) => some (y == want, pa, [])
      | some (.v (.bool y)) => match decB (.v (.bool y)) pa with
        | some (y, pa', ob) => some (y == want, pa', ob)
        | none => none
      | some (.t _) => some (false, pa, [])
      | _ => none
/-- an unknown truth value is taken for itself: it is told apart where it comes -/
def litB : AV → AV
  | .v (.bool c) => .b c
  | r => r
theorem litB_den (e : Env) (r : AV) : (litB r).den e = r.den e := by unfold litB; split <;> rfl
theorem litB_sc (m : Nat → Bool) (r : AV) : (litB r).sc m = r.sc m := by unfold litB; split <;> rfl
/-- a frame's truth value that decides is told apart, and known from there on -/
def settle (tm : List AV) : Option Nat → List AV
  | none => tm
  | some t => match tm[t]? with
    | some x => tm.set t (litB x)
    | none => tm
def gslot (ops : Array Oper) (o : Oper) : Option Nat := match o.guard with
  | some (j, _) => (ops[j]?).bind (·.dst)
  | none => none
def pslot (o : Oper) : Option Nat := match o.op with
  | .pick (.tmp t) _ _ => some t
  | _ => none
def cslot : Operand → Option Nat
  | .tmp t => some t
  | _ => none
def settleO (ops : Array Oper) (o : Oper) (tm : List AV) : List AV := settle (settle tm (gslot ops o)) (pslot o)
theorem settle_den (e : Env) (tm : List AV) (t : Option Nat) : denL e (settle tm t) = denL e tm := by
  unfold settle
  split
  · rfl
  · split
    · rename_i x hx
      rw [denL_map, denL_map, List.map_set, litB_den]
      apply List.ext_getElem?
      intro i
      rw [List.getElem?_set]
      split
      · rename_i t _ h
        subst h
        split
        · rw [List.getElem?_map, hx]; rfl
        · rename_i hl
          rw [List.getElem?_eq_none (by omega)]
      · rfl
    · rfl
theorem settle_sc {m : Nat → Bool} {tm : List AV} (h : scL m tm = true) (t : Option Nat) : scL m (settle tm t) = true := by
  unfold settle
  split
  · exact h
  · split
    · rename_i x hx
      rw [scL_all] at *
      refine List.all_eq_true.2 fun y hy => ?_
      rcases List.mem_or_eq_of_mem_set hy with h1 | rfl
      · exact List.all_eq_true.1 h y h1
      · rw [litB_sc]; exact List.all_eq_true.1 h x (List.mem_of_getElem? hx)
    · exact h
theorem settleO_den (e : Env) (ops : Array Oper) (o : Oper) (tm : List AV) : denL e (settleO ops o tm) = denL e tm := by unfold settleO; rw [settle_den, settle_den]
theorem settleO_sc {m : Nat → Bool} {tm : List AV} (h : scL m tm = true) (ops : Array Oper) (o : Oper) : scL m (settleO ops o tm) = true := settle_sc (settle_sc h _) _
/-- one operation: its value, and what is behind it -/
def oneR0 (P : Program) (x : Ext) (cl : Cl) (ops : Array Oper) (o : Oper) (s : St) : Option (AV × Rs) :=
  match wantedA ops o s.tm s.pa with
  | some (false, pa, ob) => some (.t [], ⟨⟨setT s.tm o.dst (.t []), s.h, pa⟩, ob, []⟩)
  | some (true, pa, ob) => match aop P x o s.h s.tm pa with
    | some ⟨.val r, h', pa', ob', d⟩ => if r.sc (lt h'.length) then some (r, ⟨⟨setT s.tm o.dst r, h', pa'⟩, ob ++ ob', d⟩) else none
    | some ⟨.skip, h', pa', ob', d⟩ => some (.t [], ⟨⟨setT s.tm o.dst (.t []), h', pa'⟩, ob ++ ob', d⟩)
    | some ⟨.enter f args, h', pa', ob', d⟩ => if scL (lt h'.length) args then match cl f args h' pa' with
      | some (r, h'', pa'', ob'', d'') => if r.sc (lt h''.length) then some (r, ⟨⟨setT s.tm o.dst r, h'', pa''⟩, ob ++ (ob' ++ ob''), d''⟩) else none
      | none => none else none
    | none => none
  | none => none
def oneR (P : Program) (x : Ext) (cl : Cl) (ops : Array Oper) (o : Oper) (s : St) : Option (AV × Rs) := oneR0 P x cl ops o ⟨settleO ops o s.tm, s.h, s.pa⟩
def oneA (P : Program) (x : Ext) (cl : Cl) (ops : Array Oper) (o : Oper) (s : St) : Option Rs :=
  match oneR P x cl ops o s with
  | some (_, rs) => some rs
  | none => none
def runA (P : Program) (x : Ext) (cl : Cl) (ops : Array Oper) : List Oper → St → Option Rs
  | [], s => some ⟨s, [], []⟩
  | o :: l, s => match oneA P x cl ops o s with
    | some rs => match runA P x cl ops l rs.s with
      | some rs' => some ⟨rs'.s, rs.ob ++ rs'.ob, rs.d ++ rs'.d⟩
      | none => none
    | none => none
def resL (P : Program) (tm : List AV) (h : List Blk) : List ResultVar → Option (List AV)
  | [] => some []
  | .tmp t :: l => match resL P tm h l with
    | some vs => some ((tm[t]?).getD (.t []) :: vs)
    | none => none
  | .cell a t :: l => match opLoad P t ((tm[a]?).getD (.t [])) h, resL P tm h l with
    | some v, some vs => some (v :: vs)
    | _, _ => none
def resA (P : Program) (fn : Func) (tm : List AV) (h : List Blk) : Option AV :=
  match resL P tm h fn.results.toList with
  | some [v] => some v
  | some l => some (.t l)
  | none => none
/-- a region that defers a function that does nothing on the way out -/
def deferA (P : Program) (x : Ext) (ops : Array Oper) (s : St) : Option St :=
  match ops.toList with
  | [o1, o2] => match o2.op with
    | .defer c => match o1.op, o1.dst, c.callee with
      | .makeFunc (.func f) first cap, some t, .value (.tmp t') => match P.funcs[f]?, x f (cap.toList.map (aval s.h s.tm)) with
        | some fn, some _ => if t' = t ∧ t < s.tm.length ∧ first.toList = [] ∧ c.args.toList = [] ∧ o1.guard = none ∧ o2.guard = none ∧ o2.dst = none ∧ fn.body.isSome = true then
          some ⟨setT s.tm (some t) (.f (.func f) [] (cap.toList.map (aval s.h s.tm))), s.h, s.pa⟩ else none
        | _, _ => none
      | _, _, _ => none
    | _ => none
  | _ => none
inductive Ex where
  | normal
  | exit (id : Nat)
  | ret
def Ex.to : Ex → Exit
  | .normal => .normal
  | .exit id => .exit id
  | .ret => .ret
def Ex.out : Ex → Bool
  | .exit _ => false
  | _ => true
abbrev Exec := Code → St → Option (Ex × St × List Bool × List Nat)
/-- contracts of functions, as the evaluator calls them -/
abbrev Orc := FuncId → List AV → List Blk → Option (AV × List Bool)
def enterA (fn : Func) (args : List AV) : List AV := args ++ List.replicate (fn.ntmps - args.length) (.t [])
/-- what a call hands back: blocks of its own that nothing names are forgotten -/
def backA (n : Nat) (r : AV) (h' : List Blk) (pa : List Nat) (ob : List Bool) (d : List Nat) : Option (AV × List Blk × List Nat × List Bool × List Nat) :=
  if r.sc (lt n) && (h'.take n).all (·.sc (lt n)) then fAV r fun r => fH (h'.take n) fun h' => some (r, h', pa, ob, d.filter (lt n)) else fAV r fun r => fH h' fun h' => some (r, h', pa, ob, d)
def callB (P : Program) (orc : Orc) (ex : Exec) : Cl := fun f args h pa =>
  match orc f args h with
  | some (r, ob) => if r.sc (fun _ => false) then fAV r fun r => some (r, h, pa, ob, []) else none
  | none => match P.funcs[f]? with
    | some fn => match fn.body with
      | some c => match ex c ⟨enterA fn args, h, pa⟩ with
        | some (y, s', ob, d) => if y.out then match resA P fn s'.tm s'.h with
          | some r => if h.length ≤ s'.h.length then backA h.length r s'.h s'.pa ob d else none
          | none => none else none
        | none => none
      | none => none
    | none => none
abbrev Dr := Cl → Array Oper → St → Option Rs
def exec (P : Program) (x : Ext) (orc : Orc) (dr : Dr) : Nat → Exec
  | 0, _, _ => none
  | n + 1, c, s => match c with
    | .skip => some (.normal, s, [], [])
    | .seq a b => match exec P x orc dr n a s with
      | some (.normal, s1, o1, d1) => match exec P x orc dr n b s1 with
        | some (y, s2, o2, d2) => some (y, s2, o1 ++ o2, d1 ++ d2)
        | none => none
      | some (.exit id, s1, o1, d1) => some (.exit id, s1, o1, d1)
      | some (.ret, s1, o1, d1) => some (.ret, s1, o1, d1)
      | none => none
    | .cond c a b => match decB (aval s.h (settle s.tm (cslot c)) c) s.pa with
      | some (t, pa, o1) => match exec P x orc dr n (if t then a else b) ⟨settle s.tm (cslot c), s.h, pa⟩ with
        | some (y, s2, o2, d2) => some (y, s2, o1 ++ o2, d2)
        | none => none
      | none => none
    | .block id c => match exec P x orc dr n c s with
      | some (.normal, s1, o1, d1) => some (.normal, s1, o1, d1)
      | some (.exit id', s1, o1, d1) => if id' = id then some (.normal, s1, o1, d1) else some (.exit id', s1, o1, d1)
      | some (.ret, s1, o1, d1) => some (.ret, s1, o1, d1)
      | none => none
    | .loop c => match exec P x orc dr n c s with
      | some (.normal, s1, o1, d1) => match exec P x orc dr n (.loop c) s1 with
        | some (y, s2, o2, d2) => some (y, s2, o1 ++ o2, d1 ++ d2)
        | none => none
      | some (.exit id, s1, o1, d1) => some (.exit id, s1, o1, d1)
      | some (.ret, s1, o1, d1) => some (.ret, s1, o1, d1)
      | none => none
    | .exit id => some (.exit id, s, [], [])
    | .scope c => exec P x orc dr n c s
    | .ret => some (.ret, s, [], [])
    | .region _ ops false => match deferA P x ops s with
      | some s1 => some (.normal, s1, [], [])
      | none => match runA P x (callB P orc (exec P x orc dr n)) ops ops.toList s with
      | some rs => fL rs.s.tm fun tm => fH rs.s.h fun h => some (.normal, ⟨tm, h, rs.s.pa⟩, rs.ob, rs.d)
      | none => none
    | .region _ ops true => match dr (callB P orc (exec P x orc dr n)) ops s with
      | some rs => fL rs.s.tm fun tm => fH rs.s.h fun h => some (.normal, ⟨tm, h, rs.s.pa⟩, rs.ob, rs.d)
      | none => none
    | _ => none

/-! what is proved of it -/
/-- deferred calls that do nothing on the way out -/
def QuietD (P : Program) (ds : List Deferred) : Prop := ∀ d ∈ ds, ∃ fv cap f args, d.target = .fn fv cap ∧ (∀ w, (invoke d.target d.args).run P w = .ok (.enter f args) w) ∧ ∀ w, CallsD P f args .returning w fun en u w' => (∃ v, en = .returned v) ∧ u = .returning ∧ Below w.heap.size w w'
theorem leaves_quiet {P : Program} {fn : Func} {tmps : Array Value} {R : Ending → World → Prop} {v : Value} : ∀ (ds : List Deferred), QuietD P ds → ∀ w, (∀ w', Below w.heap.size w w' → (results fn tmps).run P w' = .ok v w' ∧ R (.returned v) w') → Leaves P fn tmps R ds .returning w
  | [], _, w, h => ⟨v, (h w (Below.refl _ _)).1, (h w (Below.refl _ _)).2⟩
  | d :: ds, hq, w, h => by
    obtain ⟨fv, cap, f, args, h1, h2, h3⟩ := hq d (List.mem_cons_self ..)
    refine ⟨by simp, fv, cap, f, args, h1, h2 w, (h3 w).mono ?_⟩
    rintro en u w' ⟨⟨v', rfl⟩, rfl, hb⟩
    exact leaves_quiet ds (fun d hd => hq d (List.mem_cons_of_mem _ hd)) w' fun w2 hb2 => h w2 (hb.trans (hb2.mono hb.size))
structure StR (P : Program) (e : Env) (B : Nat) (W : World) (s : St) (a : Act) (w : World) : Prop where
  tm : a.tmps = (denL e s.tm).toArray
  df : QuietD P a.defers
  sc : scL (lt s.h.length) s.tm = true
  sr : SR e B s.h w
  bel : Below B W w
section
variable {P : Program} {B : Nat} {W : World} {x : Ext}
def ClOk (P : Program) (B : Nat) (W : World) (cl : Cl) : Prop := ∀ (f : FuncId) (args : List AV) (h : List Blk) (pa : List Nat) (r : AV) (h' : List Blk) (pa' : List Nat) (ob : List Bool) (d : List Nat), cl f args h pa = some (r, h', pa', ob, d) → (∀ b ∈ ob, b = true) →
  ∀ (e : Env) (w : World), SR e B h w → scL (lt h.length) args = true → Below B W w →
    Calls P f (denL e args).toArray w fun en w' => ∃ e', en = .returned (r.den e') ∧ SR e' B h' w' ∧ Po B e h.length d w e' h'.length w'
theorem wantedA_ok {e : Env} {ops : Array Oper} {o : Oper} {tm : List AV} {pa pa' : List Nat} {b : Bool} {ob : List Bool} {tmps : Array Value} (ha : tmps = (denL e tm).toArray) (hr : wantedA ops o tm pa = some (b, pa', ob)) (ho : ∀ b ∈ ob, b = true) :
    Region.wanted o (yielded ops tmps) = b := by
  subst ha
  unfold wantedA at hr
  unfold Region.wanted
  split at hr
  · rename_i hg
    simp only [Option.some.injEq, Prod.mk.injEq] at hr
    rw [hg]; exact hr.1
  · rename_i j want hg
    rw [hg]
    simp only [yielded]
    split at hr
    · rename_i hd
      simp only [Option.some.injEq, Prod.mk.injEq] at hr
      rw [hd]; simpa using hr.1
    · rename_i t hd
      rw [hd]
      simp only [Option.bind_some, List.getElem?_toArray, denL_get]
      split at hr
      · rename_i y hy
        simp only [Option.some.injEq, Prod.mk.injEq] at hr
        rw [hy]
        simp only [Option.map_some, AV.den]
        rw [← hr.1]; cases y <;> cases want <;> rfl
      · rename_i y hy
        split at hr <;> try cases hr
        rename_i y' hd'
        have := decB_ok (e := e) hd' ho
        rw [hy]
        simp only [Option.map_some]
        rw [this]
        cases y' <;> cases want <;> rfl
      · rename_i l hy
        simp only [Option.some.injEq, Prod.mk.injEq] at hr
        rw [hy]
        simp only [Option.map_some, AV.den]
        rw [← hr.1]; rfl
      · cases hr
theorem setT_den (e : Env) (tm : List AV) (dst : Option Nat) (r : AV) (a : Act) (ha : a.tmps = (denL e tm).toArray) : (a.put dst (r.den e)).tmps = (denL e (setT tm dst r)).toArray := by
  unfold Act.put setT
  cases dst with
  | none => exact ha
  | some d =>
    simp only [ha]
    rw [List.setIfInBounds_toArray, denL_map, denL_map, List.map_set]
theorem setT_sc {m : Nat → Bool} {tm : List AV} {dst : Option Nat} {r : AV} (h : scL m tm = true) (hr : r.sc m = true) : scL m (setT tm dst r) = true := by
  unfold setT
  cases dst with
  | none => exact h
  | some d =>
    rw [scL_all] at *
    refine List.all_eq_true.2 fun y hy => ?_
    rcases List.mem_or_eq_of_mem_set hy with h1 | rfl
    · exact List.all_eq_true.1 h y h1
    · exact hr
theorem put_defers (a : Act) (dst : Option Nat) (v : Value) : (a.put dst v).defers = a.defers := by unfold Act.put; cases dst <;> rfl
/-- one more value -/
theorem StR.put {e e' : Env} {s : St} {a : Act} {w w' : World} {h' : List Blk} {pa : List Nat} {d : List Nat} (hs : StR P e B W s a w) (dst : Option Nat) (r : AV) (hr : r.sc (lt h'.length) = true) (h1 : SR e' B h' w') (h2 : Po B e s.h.length d w e' h'.length w') :
    StR P e' B W ⟨setT s.tm dst r, h', pa⟩ (a.put dst (r.den e')) w' :=
  ⟨setT_den e' s.tm dst r a (by rw [hs.tm, denL_agr h2.agr s.tm hs.sc]), by rw [put_defers]; exact hs.df, setT_sc (scL_mono (lt_mono h2.le) _ hs.sc) hr, h1, hs.bel.trans h2.below⟩
/-- what one operation does -/
def Did (P : Program) (B : Nat) (e : Env) (n : Nat) (w : World) (run : Result Next) (r : AV) (h' : List Blk) (d : List Nat) : Prop :=
  (∃ e' w', (run = .ok (.value (r.den e')) w' ∨ (run = .ok .skip w' ∧ r = .t [])) ∧ SR e' B h' w' ∧ Po B e n d w e' h'.length w') ∨
  (∃ f args, run = .ok (.enter f args) w ∧ Calls P f args w fun en w' => ∃ e', en = .returned (r.den e') ∧ SR e' B h' w' ∧ Po B e n d w e' h'.length w')
theorem oneR0_raw {cl : Cl} (hcl : ClOk P B W cl) (hx : ExtOk P x) (hn : NoNG P) {ops : Array Oper} {o : Oper} {s : St} {r : AV} {rs : Rs} (hr : oneR0 P x cl ops o s = some (r, rs)) (ho : ∀ b ∈ rs.ob, b = true) {e : Env} {a : Act} {w : World} (hs : StR P e B W s a w) :
    r.sc (lt rs.s.h.length) = true ∧ rs.s.tm = setT s.tm o.dst r ∧
    ((Region.wanted o (yielded ops a.tmps) = true ∧ Did P B e s.h.length w ((execOp a.eval o).run P w) r rs.s.h rs.d) ∨
     (Region.wanted o (yielded ops a.tmps) = false ∧ r = .t [] ∧ rs.s.h = s.h ∧ rs.d = [])) := by
  unfold oneR0 at hr
  split at hr
  · rename_i pa ob hw
    simp only [Option.some.injEq, Prod.mk.injEq] at hr
    obtain ⟨rfl, rfl⟩ := hr
    exact ⟨rfl, rfl, .inr ⟨wantedA_ok hs.tm hw ho, rfl, rfl, rfl⟩⟩
  · rename_i pa ob hw
    split at hr
    · rename_i r' h' pa' ob' d hop
      split at hr <;> try cases hr
      rename_i hsc
      obtain ⟨e', w', r1, r2, r3⟩ := aop_ok hs.sr hx hn hs.tm hop fun b hb => ho b (List.mem_append_right _ hb)
      exact ⟨hsc, rfl, .inl ⟨wantedA_ok hs.tm hw fun b hb => ho b (List.mem_append_left _ hb), .inl ⟨e', w', .inl r1, r2, r3⟩⟩⟩
    · rename_i h' pa' ob' d hop
      simp only [Option.some.injEq, Prod.mk.injEq] at hr
      obtain ⟨rfl, rfl⟩ := hr
      obtain ⟨e', w', r1, r2, r3⟩ := aop_ok hs.sr hx hn hs.tm hop fun b hb => ho b (List.mem_append_right _ hb)
      exact ⟨rfl, rfl, .inl ⟨wantedA_ok hs.tm hw fun b hb => ho b (List.mem_append_left _ hb), .inl ⟨e', w', .inr ⟨r1, rfl⟩, r2, r3⟩⟩⟩
    · rename_i f args h' pa' ob' d hop
      split at hr <;> try cases hr
      rename_i hsca
      split at hr <;> try cases hr
      rename_i r' h'' pa'' ob'' d'' hc
      split at hr <;> try cases hr
      rename_i hsc
      obtain ⟨r1, rfl, _, _⟩ := aop_ok hs.sr hx hn hs.tm hop fun b hb => ho b (List.mem_append_right _ (List.mem_append_left _ hb))
      refine ⟨hsc, rfl, .inl ⟨wantedA_ok hs.tm hw fun b hb => ho b (List.mem_append_left _ hb), .inr ⟨f, _, r1, ?_⟩⟩⟩
      exact hcl f args _ pa' _ h'' pa'' ob'' d'' hc (fun b hb => ho b (List.mem_append_right _ (List.mem_append_right _ hb))) e w hs.sr hsca hs.bel
    · cases hr
  · cases hr
theorem StR.settle {e : Env} {s : St} {a : Act} {w : World} (hs : StR P e B W s a w) {tm : List AV} (h1 : denL e tm = denL e s.tm) (h2 : scL (lt s.h.length) tm = true) : StR P e B W ⟨tm, s.h, s.pa⟩ a w := ⟨by rw [hs.tm, h1], hs.df, h2, hs.sr, hs.bel⟩
theorem oneR_raw {cl : Cl} (hcl : ClOk P B W cl) (hx : ExtOk P x) (hn : NoNG P) {ops : Array Oper} {o : Oper} {s : St} {r : AV} {rs : Rs} (hr : oneR P x cl ops o s = some (r, rs)) (ho : ∀ b ∈ rs.ob, b = true) {e : Env} {a : Act} {w : World} (hs : StR P e B W s a w) :
    r.sc (lt rs.s.h.length) = true ∧ rs.s.tm = setT (settleO ops o s.tm) o.dst r ∧
    ((Region.wanted o (yielded ops a.tmps) = true ∧ Did P B e s.h.length w ((execOp a.eval o).run P w) r rs.s.h rs.d) ∨
     (Region.wanted o (yielded ops a.tmps) = false ∧ r = .t [] ∧ rs.s.h = s.h ∧ rs.d = [])) :=
  oneR0_raw hcl hx hn hr ho (hs.settle (settleO_den e ops o s.tm) (settleO_sc hs.sc ops o))
theorem oneA_ok {cl : Cl} (hcl : ClOk P B W cl) (hx : ExtOk P x) (hn : NoNG P) {ops : Array Oper} {o : Oper} {s : St} {rs : Rs} (hr : oneA P x cl ops o s = some rs) (ho : ∀ b ∈ rs.ob, b = true) {e : Env} {a : Act} {w : World} (hs : StR P e B W s a w)
    {K : Act → World → Prop} {Q : Exit → Act → World → Prop} (hK : ∀ e' v w', StR P e' B W rs.s (a.put o.dst v) w' → Po B e s.h.length rs.d w e' rs.s.h.length w' → K (a.put o.dst v) w') :
    (Region.wanted o (yielded ops a.tmps) = true ∧ o.wp P a w K Q) ∨ (Region.wanted o (yielded ops a.tmps) = false ∧ K (a.put o.dst undef) w) := by
  unfold oneA at hr
  split at hr <;> try cases hr
  rename_i r hq
  obtain ⟨hsc, htm, h⟩ := oneR_raw hcl hx hn hq ho hs
  have fin : ∀ e' w', SR e' B rs.s.h w' → Po B e s.h.length rs.d w e' rs.s.h.length w' → K (a.put o.dst (r.den e')) w' := fun e' w' g1 g2 => by
    refine hK e' _ w' ?_ g2
    have := (hs.settle (settleO_den e ops o s.tm) (settleO_sc hs.sc ops o)).put (pa := rs.s.pa) o.dst r hsc g1 g2
    rw [← htm] at this
    exact this
  rcases h with ⟨h1, h2⟩ | ⟨h1, h2, h3, h4⟩
  · refine .inl ⟨h1, ?_⟩
    unfold Oper.wp
    rcases h2 with ⟨e', w', g, g2, g3⟩ | ⟨f, args, g, g2⟩
    · rcases g with g | ⟨g, hru⟩
      · rw [g]; exact fin e' w' g2 g3
      · rw [g]
        have := fin e' w' g2 g3
        rw [hru] at this
        exact this
    · rw [g]
      refine g2.mono ?_
      rintro en w' ⟨e', rfl, g2, g3⟩
      exact fin e' w' g2 g3
  · refine .inr ⟨h1, ?_⟩
    have := fin e w (by rw [h3]; exact hs.sr) (by rw [h3, h4]; exact Po.refl _ _ _ _)
    rw [h2] at this
    exact this
def Ends (P : Program) (B : Nat) (W : World) (e : Env) (n : Nat) (w : World) (y : Ex) (s' : St) (d : List Nat) : Exit → Act → World → Prop := fun ex a' w' => ex = y.to ∧ ∃ e', StR P e' B W s' a' w' ∧ Po B e n d w e' s'.h.length w'
theorem Ends.after {e e1 : Env} {n n1 : Nat} {d1 d2 : List Nat} {w w1 : World} {y : Ex} {s' : St} (h : Po B e n d1 w e1 n1 w1) : ∀ ex a w', Ends P B W e1 n1 w1 y s' d2 ex a w' → Ends P B W e n w y s' (d1 ++ d2) ex a w' :=
  fun ex a w' ⟨h1, e', h2, h3⟩ => ⟨h1, e', h2, h.trans h3⟩
theorem runA_ok {cl : Cl} (hcl : ClOk P B W cl) (hx : ExtOk P x) (hn : NoNG P) {ops : Array Oper} : ∀ (l : List Oper) (s : St) (rs : Rs), runA P x cl ops l s = some rs → (∀ b ∈ rs.ob, b = true) → ∀ (e : Env) (a : Act) (w : World), StR P e B W s a w →
    ∀ Q : Exit → Act → World → Prop, (∀ a' w', Ends P B W e s.h.length w .normal rs.s rs.d .normal a' w' → Q .normal a' w') → wpList P ops Q l a w
  | [], s, rs, hr, _, e, a, w, hs, Q, hQ => by
    obtain rfl := Option.some.inj hr
    exact hQ a w ⟨rfl, e, hs, Po.refl _ _ _ _⟩
  | o :: l, s, rs, hr, ho, e, a, w, hs, Q, hQ => by
    unfold runA at hr
    split at hr <;> try cases hr
    rename_i r1 h1
    split at hr <;> try cases hr
    rename_i r2 h2
    have key : ∀ e' v w', StR P e' B W r1.s (a.put o.dst v) w' → Po B e s.h.length r1.d w e' r1.s.h.length w' → wpList P ops Q l (a.put o.dst v) w' := fun e' v w' g1 g2 =>
      runA_ok hcl hx hn l r1.s r2 h2 (fun b hb => ho b (List.mem_append_right _ hb)) e' _ w' g1 Q fun a2 w2 h => hQ a2 w2 (Ends.after g2 _ _ _ h)
    unfold wpList
    rcases oneA_ok hcl hx hn (Q := Q) h1 (fun b hb => ho b (List.mem_append_left _ hb)) hs key with ⟨g1, g2⟩ | ⟨g1, g2⟩
    · rw [if_pos g1]; exact .inl g2
    · rw [if_neg (by rw [g1]; decide)]; exact g2
theorem deferA_ok (hx : ExtOk P x) (hn : NoNG P) {ops : Array Oper} {s s1 : St} (hr : deferA P x ops s = some s1) {e : Env} {a : Act} {w : World} (hs : StR P e B W s a w)
    {Q : Exit → Act → World → Prop} (hQ : ∀ a' w', Ends P B W e s.h.length w .normal s1 [] .normal a' w' → Q .normal a' w') : wpList P ops Q ops.toList a w := by
  unfold deferA at hr
  split at hr <;> try cases hr
  rename_i o1 o2 hl
  split at hr <;> try cases hr
  rename_i c hc
  split at hr <;> try cases hr
  rename_i f first cap t t' h1 h2 h3
  split at hr <;> try cases hr
  rename_i fn r hf hxf
  split at hr <;> try cases hr
  rename_i hh
  obtain ⟨rfl, ht, hfirst, hargs, g1, g2, g3, hbody⟩ := hh
  have hcap : cap.map a.eval = (denL e (cap.toList.map (aval s.h s.tm))).toArray := by
    apply Array.ext'
    simp only [Array.toList_map, denL_map, List.map_map]
    apply List.map_congr_left
    intro p _
    simp [Function.comp, aval_den hs.sr hs.tm]
  have hfirst' : first = #[] := by rw [← Array.toList_inj]; exact hfirst
  have hargs' : c.args = #[] := by rw [← Array.toList_inj]; exact hargs
  have hsc : (AV.f (.func f) [] (cap.toList.map (aval s.h s.tm))).sc (lt s.h.length) = true := by
    simp only [AV.sc, scL, Bool.true_and]
    rw [scL_all]
    refine List.all_eq_true.2 fun y hy => ?_
    obtain ⟨p, _, rfl⟩ := List.mem_map.1 hy
    exact aval_sc hs.sc p
  have w1 : Region.wanted o1 (yielded ops a.tmps) = true := by unfold Region.wanted; rw [g1]
  have hput := hs.put (pa := s.pa) (some t') (.f (.func f) [] (cap.toList.map (aval s.h s.tm))) hsc hs.sr (Po.refl B e s.h.length w)
  have hval : (AV.f (.func f) [] (cap.toList.map (aval s.h s.tm))).den e = .func (.func f) #[] (cap.map a.eval) := by rw [hcap]; rfl
  rw [hval] at hput
  generalize ha1 : a.put (some t') (.func (.func f) #[] (cap.map a.eval)) = a1 at hput
  have w2 : Region.wanted o2 (yielded ops a1.tmps) = true := by unfold Region.wanted; rw [g2]
  have hev : a1.eval (.tmp t') = .func (.func f) #[] (cap.map a.eval) := by
    have : t' < a.tmps.size := by rw [hs.tm]; simpa [denL_length] using ht
    rw [← ha1]
    simp [Act.eval, Act.put, this]
  rw [hl]
  unfold wpList
  rw [if_pos w1]
  refine .inl ?_
  unfold Oper.wp
  have r1 : (execOp a.eval o1).run P w = .ok (.value (.func (.func f) #[] (cap.map a.eval))) w := by
    unfold execOp
    simp only [h1, Instr.makeFunc, hfirst', Array.map_empty, Sem.run_bind, Sem.run_pure, Result.andThen_ok]
  rw [r1, Oper.upon_value, h2, ha1]
  unfold wpList
  rw [if_pos w2]
  refine .inl ?_
  unfold Oper.wp
  have r2 : (execOp a1.eval o2).run P w = .ok (.defer { target := .fn (.func f) (cap.map a.eval), args := #[] }) w := by
    unfold execOp
    simp only [hc, resolve, h3, hev, hargs', Array.map_empty, Deferred.ofValue, Sem.run_bind, Sem.run_pure, Result.andThen_ok]
    rfl
  rw [r2, Oper.upon_defer, g3]
  unfold wpList
  refine hQ _ _ ⟨rfl, e, ⟨hput.tm, ?_, hput.sc, hput.sr, hput.bel⟩, Po.refl _ _ _ _⟩
  intro d hd
  rcases List.mem_cons.1 hd with rfl | hd
  · refine ⟨.func f, cap.map a.eval, f, cap.map a.eval, rfl, fun w => ?_, fun w => ?_⟩
    · have hname := hn f fn hf
      have hb' : fn.body.isNone = false := by cases h : fn.body <;> simp_all
      simp only [invoke, callFunc, Array.empty_append, Sem.run_bind, run_program, Result.andThen_ok, hf, hname, Bool.false_eq_true, if_false, hb', Sem.run_pure]
    · have := hx.quiet f fn _ r e w hf hbody hxf
      rwa [← hcap] at this
  · exact hput.df d hd
def DrOk (P : Program) (B : Nat) (W : World) (dr : Dr) : Prop := ∀ (cl : Cl) (ops : Array Oper) (s : St) (rs : Rs), ClOk P B W cl → dr cl ops s = some rs → (∀ b ∈ rs.ob, b = true) → ∀ (e : Env) (a : Act) (w : World) (id : Nat), StR P e B W s a w → (Code.region id ops true).wp P (Ends P B W e s.h.length w .normal rs.s rs.d) a w
def OrcOk (P : Program) (B : Nat) (W : World) (orc : Orc) : Prop := ∀ (f : FuncId) (args : List AV) (h : List Blk) (r : AV) (ob : List Bool), orc f args h = some (r, ob) → (∀ b ∈ ob, b = true) → ∀ (e : Env) (w : World), SR e B h w → Below B W w →
  Calls P f (denL e args).toArray w fun en w' => en = .returned (r.den e) ∧ Below w.heap.size w w'
def ExOk (P : Program) (B : Nat) (W : World) (ex : Exec) : Prop := ∀ (c : Code) (s : St) (y : Ex) (s' : St) (ob : List Bool) (d : List Nat), ex c s = some (y, s', ob, d) → (∀ b ∈ ob, b = true) → ∀ (e : Env) (a : Act) (w : World), StR P e B W s a w →
  c.wp P (Ends P B W e s.h.length w y s' d) a w
def resF (tmps : Array Value) : ResultVar → Sem Value
  | .tmp t => pure (tmps.getD t undef)
  | .cell a t => do loadVar t (← asAddr (tmps.getD a undef))
theorem results_eq (fn : Func) (tmps : Array Value) : results fn tmps = (do let vs ← fn.results.mapM (resF tmps); pure (if h : vs.size = 1 then vs[0] else .tuple vs)) := rfl
theorem resL_ok {e : Env} {tm : List AV} {h : List Blk} {w : World} {tmps : Array Value} (hs : SR e B h w) (ha : tmps = (denL e tm).toArray) : ∀ (l : List ResultVar) (vs : List AV), resL P tm h l = some vs →
    (l.mapM (resF tmps)).run P w = .ok (denL e vs) w
  | [], vs, hr => by obtain rfl := Option.some.inj hr; rfl
  | .tmp t :: l, vs, hr => by
    unfold resL at hr
    split at hr <;> try cases hr
    rename_i vs' hl
    have h1 : tmps.getD t undef = ((tm[t]?).getD (.t [])).den e := by
      subst ha
      have : (denL e tm).toArray.getD t undef = ((denL e tm)[t]?).getD undef := by simp [Array.getD_eq_getD_getElem?]
      rw [this, denL_get]; cases tm[t]? <;> rfl
    simp only [List.mapM_cons, resF, Sem.run_bind, Sem.run_pure, Result.andThen_ok, resL_ok hs ha l vs' hl, h1, denL]
  | .cell a t :: l, vs, hr => by
    unfold resL at hr
    split at hr <;> try cases hr
    rename_i v vs' hv hl
    have h1 : tmps.getD a undef = ((tm[a]?).getD (.t [])).den e := by
      subst ha
      have : (denL e tm).toArray.getD a undef = ((denL e tm)[a]?).getD undef := by simp [Array.getD_eq_getD_getElem?]
      rw [this, denL_get]; cases tm[a]? <;> rfl
    have h2 : (resF tmps (.cell a t)).run P w = .ok (v.den e) w := by
      have := opLoad_ok (P := P) (e := e) hs hv
      unfold opLoad at hv
      split at hv <;> try cases hv
      rename_i k o heq
      rw [heq] at this h1
      simp only [resF, h1]
      exact this
    simp only [List.mapM_cons, Sem.run_bind, h2, Result.andThen_ok, resL_ok hs ha l vs' hl, Sem.run_pure, denL]
theorem resA_ok {e : Env} {tm : List AV} {h : List Blk} {w : World} {tmps : Array Value} {fn : Func} {r : AV} (hs : SR e B h w) (ha : tmps = (denL e tm).toArray) (hr : resA P fn tm h = some r) : (results fn tmps).run P w = .ok (r.den e) w := by
  unfold resA at hr
  rw [results_eq]
  split at hr
  · rename_i v hl
    obtain rfl := Option.some.inj hr
    have := resL_ok (P := P) hs ha _ _ hl
    simp only [Sem.run_bind, Array.mapM_eq_mapM_toList, Sem.run_map, this, Result.andThen_ok, denL]
    rfl
  · rename_i l hne hl
    obtain rfl := Option.some.inj hr
    have := resL_ok (P := P) hs ha _ _ hl
    simp only [Sem.run_bind, Array.mapM_eq_mapM_toList, Sem.run_map, this, Result.andThen_ok]
    have hsz : ¬ ((denL e l).toArray.size = 1) := by
      rw [List.size_toArray, denL_length]
      intro h1
      cases l with
      | nil => simp at h1
      | cons v t => cases t with
        | nil => exact hne v rfl
        | cons u t => simp at h1
    rw [dif_neg hsz]
    rfl
  · cases hr
theorem callB_ok {orc : Orc} {ex : Exec} (hor : OrcOk P B W orc) (hex : ExOk P B W ex) : ClOk P B W (callB P orc ex) := by
  intro f args h pa r h' pa' ob d hr ho e w hs hsc hW
  unfold callB at hr
  split at hr
  · rename_i r' ob' hq
    split at hr <;> try cases hr
    rename_i hrsc
    rw [fAV_eq] at hr
    simp only [Option.some.injEq, Prod.mk.injEq] at hr
    obtain ⟨rfl, rfl, rfl, rfl, rfl⟩ := hr
    refine (hor f args _ _ _ hq ho e w hs hW).mono ?_
    rintro en w' ⟨rfl, hb⟩
    exact ⟨e, rfl, hs.keep hb, Po.keep hb hs.size⟩
  · split at hr <;> try cases hr
    rename_i fn hf
    split at hr <;> try cases hr
    rename_i c hc
    split at hr <;> try cases hr
    rename_i y s' ob' d' hq
    split at hr <;> try cases hr
    rename_i hy
    split at hr <;> try cases hr
    rename_i r' hres
    split at hr <;> try cases hr
    rename_i hlen
    have hst : StR P e B W ⟨enterA fn args, h, pa⟩ { tmps := (denL e args).toArray ++ Array.replicate (fn.ntmps - (denL e args).toArray.size) undef, defers := [] } w := by
      refine ⟨?_, fun d hd => (by cases hd), ?_, hs, hW⟩
      · simp only [enterA, denL_append, List.size_toArray, denL_length]
        apply Array.ext'
        simp [denL_map, AV.den, denL, undef]
      · simp only [enterA]
        rw [scL_all] at *
        simp only [List.all_append, Bool.and_eq_true]
        exact ⟨hsc, List.all_eq_true.2 fun y hy => by rw [(List.mem_replicate.1 hy).2]; rfl⟩
    -- what is handed back
    have back : ob = ob' ∧ ∀ e' w', SR e' B s'.h w' → Po B e h.length d' w e' s'.h.length w' → SR e' B h' w' ∧ Po B e h.length d w e' h'.length w' ∧ r'.den e' = r.den e' := by
      unfold backA at hr
      split at hr
      · rename_i hg
        simp only [Bool.and_eq_true] at hg
        rw [fAV_eq, fH_eq] at hr
        simp only [Option.some.injEq, Prod.mk.injEq] at hr
        obtain ⟨rfl, rfl, rfl, rfl, rfl⟩ := hr
        refine ⟨rfl, fun e' w' g1 g2 => ?_⟩
        have hl : (s'.h.take h.length).length = h.length := by simp; omega
        have sub : ∀ (k : Nat) (b : Blk), (s'.h.take h.length)[k]? = some b → s'.h[k]? = some b := fun k b hb => by
          rw [List.getElem?_take] at hb
          split at hb
          · exact hb
          · cases hb
        refine ⟨⟨g1.size, fun k b hb => g1.blk k b (sub k b hb), fun k k' b b' hb hb' => g1.inj k k' b b' (sub k b hb) (sub k' b' hb'), fun k b hb => ?_⟩, ?_, rfl⟩
        · rw [hl]
          exact List.all_eq_true.1 hg.2 b (List.mem_of_getElem? hb)
        · rw [hl]
          refine ⟨g2.agr, ⟨g2.fr.os, g2.fr.tape, g2.fr.output, g2.fr.size, fun b hb hd => g2.fr.block b hb fun k hk hkd => hd k hk (List.mem_filter.2 ⟨hkd, lt_iff.2 hk⟩)⟩, Nat.le_refl _, fun k h1 h2 => by omega, g2.low⟩
      · rw [fAV_eq, fH_eq] at hr
        simp only [Option.some.injEq, Prod.mk.injEq] at hr
        obtain ⟨rfl, rfl, rfl, rfl, rfl⟩ := hr
        exact ⟨rfl, fun e' w' g1 g2 => ⟨g1, g2, rfl⟩⟩
    refine calls_of_wp_defers hf hc (wp_mono (hex c _ _ _ _ _ hq (back.1 ▸ ho) e _ w hst) ?_)
    rintro en a' w' ⟨rfl, e', g1, g2⟩
    have leave : Leaves P fn a'.tmps (fun en w' => ∃ e', en = .returned (r.den e') ∧ SR e' B h' w' ∧ Po B e h.length d w e' h'.length w') a'.defers .returning w' := leaves_quiet (v := r'.den e') _ g1.df w' fun w2 hb => by
      have hs2 := g1.sr.keep hb
      obtain ⟨k1, k2, k3⟩ := back.2 e' w2 hs2 (by have := g2.trans (Po.keep (n := s'.h.length) (e := e') hb g1.sr.size); simpa using this)
      exact ⟨resA_ok hs2 g1.tm hres, e', by rw [k3], k1, k2⟩
    cases y with
    | normal => exact leave
    | ret => exact leave
    | exit id => cases hy
theorem rounds_mono {c : Code} {Q Q' : Exit → Act → World → Prop} (h : ∀ e a w, Q e a w → Q' e a w) : ∀ (n : Nat) (a : Act) (w : World), Code.rounds P c Q n a w → Code.rounds P c Q' n a w
  | 0, _, _, h0 => h0
  | n + 1, a, w, h0 => wp_mono h0 fun e a w hq => by
    cases e with
    | normal => exact rounds_mono h n a w hq
    | _ => exact h _ _ _ hq
theorem exec_ok {orc : Orc} {dr : Dr} (hx : ExtOk P x) (hn : NoNG P) (hor : OrcOk P B W orc) (hdr : DrOk P B W dr) : ∀ n : Nat, ExOk P B W (exec P x orc dr n) ∧
    (∀ (c : Code) (s : St) (y : Ex) (s' : St) (ob : List Bool) (d : List Nat), exec P x orc dr n (.loop c) s = some (y, s', ob, d) → (∀ b ∈ ob, b = true) → ∀ (e : Env) (a : Act) (w : World), StR P e B W s a w → Code.rounds P c (Ends P B W e s.h.length w y s' d) n a w)
  | 0 => ⟨fun c s y s' ob d hr => (by cases hr), fun c s y s' ob d hr => (by cases hr)⟩
  | n + 1 => by
    obtain ⟨IH, IL⟩ := exec_ok hx hn hor hdr n
    have loop : ∀ (c : Code) (s : St) (y : Ex) (s' : St) (ob : List Bool) (d : List Nat), exec P x orc dr (n + 1) (.loop c) s = some (y, s', ob, d) → (∀ b ∈ ob, b = true) → ∀ (e : Env) (a : Act) (w : World), StR P e B W s a w → Code.rounds P c (Ends P B W e s.h.length w y s' d) (n + 1) a w := by
      intro c s y s' ob d hr ho e a w hs
      unfold exec at hr
      simp only at hr
      split at hr
      · rename_i s1 o1 d1 h1
        split at hr <;> try cases hr
        rename_i o2 d2 h2
        refine wp_mono (IH c s .normal s1 o1 d1 h1 (fun b hb => ho b (List.mem_append_left _ hb)) e a w hs) ?_
        rintro ex a1 w1 ⟨rfl, e1, g1, g2⟩
        exact rounds_mono (Ends.after g2) n a1 w1 (IL c s1 y s' o2 d2 h2 (fun b hb => ho b (List.mem_append_right _ hb)) e1 a1 w1 g1)
      · rename_i id s1 o1 d1 h1
        simp only [Option.some.injEq, Prod.mk.injEq] at hr
        obtain ⟨rfl, rfl, rfl, rfl⟩ := hr
        refine wp_mono (IH c s _ _ _ _ h1 ho e a w hs) fun ex a' w' h => ?_
        obtain ⟨rfl, h⟩ := h
        exact ⟨rfl, h⟩
      · rename_i s1 o1 d1 h1
        simp only [Option.some.injEq, Prod.mk.injEq] at hr
        obtain ⟨rfl, rfl, rfl, rfl⟩ := hr
        refine wp_mono (IH c s _ _ _ _ h1 ho e a w hs) fun ex a' w' h => ?_
        obtain ⟨rfl, h⟩ := h
        exact ⟨rfl, h⟩
      · cases hr
    refine ⟨fun c s y s' ob d hr ho e a w hs => ?_, loop⟩
    cases c with
    | skip =>
      unfold exec at hr
      simp only [Option.some.injEq, Prod.mk.injEq] at hr
      obtain ⟨rfl, rfl, rfl, rfl⟩ := hr
      exact wp_skip ⟨rfl, e, hs, Po.refl _ _ _ _⟩
    | exit id =>
      unfold exec at hr
      simp only [Option.some.injEq, Prod.mk.injEq] at hr
      obtain ⟨rfl, rfl, rfl, rfl⟩ := hr
      exact wp_exit ⟨rfl, e, hs, Po.refl _ _ _ _⟩
    | ret =>
      unfold exec at hr
      simp only [Option.some.injEq, Prod.mk.injEq] at hr
      obtain ⟨rfl, rfl, rfl, rfl⟩ := hr
      exact wp_ret ⟨rfl, e, hs, Po.refl _ _ _ _⟩
    | seq c1 c2 =>
      unfold exec at hr
      simp only at hr
      refine wp_seq ?_
      split at hr
      · rename_i s1 o1 d1 h1
        split at hr <;> try cases hr
        rename_i o2 d2 h2
        refine wp_mono (IH c1 s .normal s1 o1 d1 h1 (fun b hb => ho b (List.mem_append_left _ hb)) e a w hs) ?_
        rintro ex a1 w1 ⟨rfl, e1, g1, g2⟩
        exact wp_mono (IH c2 s1 y s' o2 d2 h2 (fun b hb => ho b (List.mem_append_right _ hb)) e1 a1 w1 g1) (Ends.after g2)
      · rename_i id s1 o1 d1 h1
        simp only [Option.some.injEq, Prod.mk.injEq] at hr
        obtain ⟨rfl, rfl, rfl, rfl⟩ := hr
        refine wp_mono (IH c1 s _ _ _ _ h1 ho e a w hs) fun ex a' w' h => ?_
        obtain ⟨rfl, h⟩ := h
        exact ⟨rfl, h⟩
      · rename_i s1 o1 d1 h1
        simp only [Option.some.injEq, Prod.mk.injEq] at hr
        obtain ⟨rfl, rfl, rfl, rfl⟩ := hr
        refine wp_mono (IH c1 s _ _ _ _ h1 ho e a w hs) fun ex a' w' h => ?_
        obtain ⟨rfl, h⟩ := h
        exact ⟨rfl, h⟩
      · cases hr
    | cond c c1 c2 =>
      unfold exec at hr
      simp only at hr
      split at hr <;> try cases hr
      rename_i t pa o1 hd
      split at hr <;> try cases hr
      rename_i o2 h2
      have hc := decB_ok (e := e) hd fun b hb => ho b (List.mem_append_left _ hb)
      have hst := hs.settle (settle_den e s.tm (cslot c)) (settle_sc hs.sc _)
      rw [aval_den hs.sr hst.tm] at hc
      exact wp_cond hc (IH _ ⟨settle s.tm (cslot c), s.h, pa⟩ y s' o2 d h2 (fun b hb => ho b (List.mem_append_right _ hb)) e a w ⟨hst.tm, hst.df, hst.sc, hst.sr, hst.bel⟩)
    | block id c =>
      unfold exec at hr
      simp only at hr
      refine wp_block ?_
      split at hr
      · rename_i s1 o1 d1 h1
        simp only [Option.some.injEq, Prod.mk.injEq] at hr
        obtain ⟨rfl, rfl, rfl, rfl⟩ := hr
        refine wp_mono (IH c s _ _ _ _ h1 ho e a w hs) fun ex a' w' h => ?_
        obtain ⟨rfl, h⟩ := h
        exact ⟨rfl, h⟩
      · rename_i id' s1 o1 d1 h1
        split at hr
        · rename_i hid
          simp only [Option.some.injEq, Prod.mk.injEq] at hr
          obtain ⟨rfl, rfl, rfl, rfl⟩ := hr
          refine wp_mono (IH c s _ _ _ _ h1 ho e a w hs) fun ex a' w' h => ?_
          obtain ⟨rfl, h⟩ := h
          simp only [Ex.to, Exit.inBlock, hid, if_true]
          exact ⟨rfl, h⟩
        · rename_i hid
          simp only [Option.some.injEq, Prod.mk.injEq] at hr
          obtain ⟨rfl, rfl, rfl, rfl⟩ := hr
          refine wp_mono (IH c s _ _ _ _ h1 ho e a w hs) fun ex a' w' h => ?_
          obtain ⟨rfl, h⟩ := h
          simp only [Ex.to, Exit.inBlock, hid, if_false]
          exact ⟨rfl, h⟩
      · rename_i s1 o1 d1 h1
        simp only [Option.some.injEq, Prod.mk.injEq] at hr
        obtain ⟨rfl, rfl, rfl, rfl⟩ := hr
        refine wp_mono (IH c s _ _ _ _ h1 ho e a w hs) fun ex a' w' h => ?_
        obtain ⟨rfl, h⟩ := h
        exact ⟨rfl, h⟩
      · cases hr
    | loop c => exact wp_loop_rounds (n + 1) (loop c s y s' ob d hr ho e a w hs)
    | scope c =>
      unfold exec at hr
      simp only at hr
      refine wp_scope_straight (wp_mono (IH c s y s' ob d hr ho e a w hs) fun ex a' w' h => ?_)
      obtain ⟨rfl, h⟩ := h
      cases y <;> exact ⟨rfl, h⟩
    | region id ops draw =>
      cases draw with
      | false =>
        unfold exec at hr
        simp only at hr
        split at hr
        · rename_i s1 hd1
          simp only [Option.some.injEq, Prod.mk.injEq] at hr
          obtain ⟨rfl, rfl, rfl, rfl⟩ := hr
          exact wp_region_list (deferA_ok hx hn hd1 hs fun a' w' h => h)
        split at hr <;> try cases hr
        rename_i rs hrs
        rw [fL_eq, fH_eq] at hr
        simp only [Option.some.injEq, Prod.mk.injEq] at hr
        obtain ⟨rfl, rfl, rfl, rfl⟩ := hr
        exact wp_region_list (runA_ok (callB_ok hor IH) hx hn ops.toList s rs hrs ho e a w hs _ fun a' w' h => h)
      | true =>
        unfold exec at hr
        simp only at hr
        split at hr <;> try cases hr
        rename_i rs hrs
        rw [fL_eq, fH_eq] at hr
        simp only [Option.some.injEq, Prod.mk.injEq] at hr
        obtain ⟨rfl, rfl, rfl, rfl⟩ := hr
        exact hdr _ ops s rs (callB_ok hor IH) hrs ho e a w id hs
    | _ => unfold exec at hr; simp only [reduceCtorEq] at hr
end
end Go.Proofs.YtpfoifflfgiaoaaGreatDoor
