/- The evaluator: operations. -/
import Derived.Test.YtpfoifflfgiaoaaGreatDoorK09
import Derived.MapKept
import Derived.Laws.AppendOwn
import Derived.Lib.ConvBytes
import Derived.Lib.UnsafeStr
import Derived.Lib.Builder
set_option linter.unusedVariables false
set_option linter.unusedSimpArgs false
namespace Go.Proofs.YtpfoifflfgiaoaaGreatDoor
open Go Go.RowKit

section
variable {P : Program} {e : Env} {B : Nat} {h : List Blk} {w : World}
def gdA (P : Program) (t : TypeId) (x : AV) : Bool :=
  match x with
  | .a _ => !(P.eqGuardType P.depth t)
  | .v .nilIface | .v (.agg _) => false
  | _ => true
theorem gdA_ok {t : TypeId} {x : AV} (hg : gdA P t x = true) (op : BinOp) (xo yo : Operand) (v : Value) : (eqGuard op t xo yo (x.den e) v).run P w = .ok () w := by
  have key : ∀ op, op = .eql ∨ op = .neq → (eqGuard op t xo yo (x.den e) v).run P w = .ok () w := fun op ho => by
    cases x with
    | a l =>
      simp only [gdA, Bool.not_eq_true'] at hg
      simp only [AV.den]
      rcases ho with rfl | rfl <;> cases v <;> simp [eqGuard, hg]
    | v x => cases x <;> first | (simp [gdA] at hg; done) | (rcases ho with rfl | rfl <;> cases v <;> rfl)
    | _ => rcases ho with rfl | rfl <;> cases v <;> rfl
  cases op
  case eql => exact key _ (.inl rfl)
  case neq => exact key _ (.inr rfl)
  all_goals rfl

def eqlA (P : Program) (t : TypeId) (x y : AV) (pa : List Nat) : Option (AV × List Nat × List Bool) :=
  match eqA P 8 t x y with
  | some (l, r) => some (mkB l r, pa, [])
  | none => none
theorem eqlA_ok {t : TypeId} {x y r : AV} {pa pa' : List Nat} {ob : List Bool} (hr : eqlA P t x y pa = some (r, pa', ob)) (ho : ∀ o ∈ ob, o = true) :
    ∃ b, r.den e = .bool b ∧ (Op.equal t (x.den e) (y.den e)).run P w = .ok b w := by
  unfold eqlA at hr
  split at hr <;> try cases hr
  rename_i l b hq
  exact ⟨b, mkB_den _ _, eqA_ok 9992 8 t x y l b hq⟩
def negB : AV → AV
  | .b x => .b (!x)
  | .v (.bool x) => .v (.bool (!x))
  | x => x
theorem negB_den {r : AV} {b : Bool} (hr : r.den e = .bool b) : (negB r).den e = .bool (!b) := by
  unfold negB
  split
  · simp only [AV.den] at hr ⊢; injection hr with hr; rw [hr]
  · simp only [AV.den] at hr ⊢; injection hr with hr; rw [hr]
  · rename_i h1 h2
    cases r <;> simp only [AV.den, reduceCtorEq, Value.bool.injEq] at hr
    · subst hr; exact absurd rfl (h2 _)
    · exact absurd rfl (h1 _)
def isIntV (x : AV) : Bool := match x with | .n _ _ | .x _ _ => true | .v (.int _ _) | .v (.string _) | .v (.float _ _) | .v (.complex _ _ _) => true | _ => false
/-- operands of other kinds than numbers and strings: '==' is the type's -/
theorem bin_eql {x y : AV} (hx : isIntV x = false) (t : TypeId) : binOp .eql t (x.den e) (y.den e) = (do pure (.bool (← Op.equal t (x.den e) (y.den e)))) ∧ binOp .neq t (x.den e) (y.den e) = (do pure (.bool (!(← Op.equal t (x.den e) (y.den e))))) := by
  cases x with
  | v x => cases x <;> first | (simp [isIntV] at hx; done) | (constructor <;> (simp only [AV.den]; cases y.den e <;> rfl))
  | n k i => simp [isIntV] at hx
  | x k i => simp [isIntV] at hx
  | _ => constructor <;> (simp only [AV.den]; cases y.den e <;> rfl)
def opBin (P : Program) (op : BinOp) (t : TypeId) (x y : AV) (pa : List Nat) : Option (AV × List Nat × List Bool) :=
  match ri x, ri y with
  | some a, some b => match opInt op a b with
    | some (r, ob) => some (r, pa, ob)
    | none => none
  | _, _ => match op, x, y with
    | .add, .v (.string a), .v (.string b) => if a.size + b.size ≤ 9223372036854775807 then some (.v (.string (a ++ b)), pa, []) else none
    | .eql, .v (.string a), .v (.string b) => some (.b (a.data.toList == b.data.toList), pa, [])
    | .neq, .v (.string a), .v (.string b) => some (.b (!(a.data.toList == b.data.toList)), pa, [])
    | .eql, x, y => if gdA P t x && !isIntV x then eqlA P t x y pa else none
    | .neq, x, y => if gdA P t x && !isIntV x then match eqlA P t x y pa with
      | some (r, pa', ob) => some (negB r, pa', ob)
      | none => none else none
    | _, _, _ => none
theorem opBin_ok {op : BinOp} {t : TypeId} {x y r : AV} {pa pa' : List Nat} {ob : List Bool} (hr : opBin P op t x y pa = some (r, pa', ob)) (ho : ∀ o ∈ ob, o = true) (xo yo : Operand) :
    ((do eqGuard op t xo yo (x.den e) (y.den e); binOp op t (x.den e) (y.den e) : Sem Value)).run P w = .ok (r.den e) w := by
  unfold opBin at hr
  split at hr
  · rename_i a b hx hy
    split at hr <;> try cases hr
    rename_i r' ob' hi
    have hg : (eqGuard op t xo yo (.int a.k a.i) (.int b.k b.i)).run P w = .ok () w := by cases op <;> rfl
    rw [ri_den hx, ri_den hy]
    simp only [Sem.run_bind, hg, Result.andThen_ok]
    exact opInt_ok t hi ho
  · split at hr
    · rename_i a b _
      split at hr <;> try cases hr
      rename_i hn
      have hg : (eqGuard .add t xo yo (.string a) (.string b)).run P w = .ok () w := rfl
      have h2 : ¬ (((a.size + b.size : Nat) : Int) > IntKind.i64.max) := by
        have : IntKind.i64.max = 9223372036854775807 := by decide
        rw [this]; omega
      have h3 : (Op.stringOp .add a b).run P w = .ok (.string (a ++ b)) w := by
        unfold Op.stringOp
        rw [if_neg h2]
        rfl
      simp only [AV.den, Sem.run_bind, hg, Result.andThen_ok]
      exact h3
    · rename_i a b _
      simp only [Option.some.injEq, Prod.mk.injEq] at hr
      obtain ⟨rfl, _, _⟩ := hr
      have hg : (eqGuard .eql t xo yo (.string a) (.string b)).run P w = .ok () w := rfl
      simp only [AV.den, Sem.run_bind, hg, Result.andThen_ok]
      simp [binOp, Op.stringOp, ByteArray.toList_eq]
    · rename_i a b _
      simp only [Option.some.injEq, Prod.mk.injEq] at hr
      obtain ⟨rfl, _, _⟩ := hr
      have hg : (eqGuard .neq t xo yo (.string a) (.string b)).run P w = .ok () w := rfl
      simp only [AV.den, Sem.run_bind, hg, Result.andThen_ok]
      simp [binOp, Op.stringOp, ByteArray.toList_eq]
    · split at hr <;> try cases hr
      rename_i hgd
      simp only [Bool.and_eq_true, Bool.not_eq_true'] at hgd
      obtain ⟨b, h1, h2⟩ := eqlA_ok (e := e) (w := w) hr ho
      simp only [Sem.run_bind, gdA_ok hgd.1, Result.andThen_ok, (bin_eql hgd.2 t).1, h2, h1, Sem.run_pure]
    · split at hr <;> try cases hr
      rename_i hgd
      simp only [Bool.and_eq_true, Bool.not_eq_true'] at hgd
      split at hr <;> try cases hr
      rename_i r' pa1 ob1 hq
      obtain ⟨b, h1, h2⟩ := eqlA_ok (e := e) (w := w) hq ho
      simp only [Sem.run_bind, gdA_ok hgd.1, Result.andThen_ok, (bin_eql hgd.2 t).2, h2, negB_den h1, Sem.run_pure]
    · cases hr

def opUn (op : UnOp) (x : AV) : Option AV :=
  match op with
  | .neg => match intV x with
    | some (l, k, n) => some (mkW l k (0 - n))
    | none => none
  | .xor => match intV x with
    | some (l, k, n) => some (mkBits l .xor k (if k.signed then -1 else k.max) n)
    | none => none
  | .not => match boolV x with
    | some (l, b) => some (mkB l (!b))
    | none => none
  | _ => none
theorem opUn_ok {op : UnOp} {x r : AV} (hr : opUn op x = some r) : (Op.unary op (x.den e)).run P w = .ok (r.den e) w := by
  unfold opUn at hr
  split at hr
  · split at hr <;> try cases hr
    rename_i l k n hx
    rw [intV_den hx, mkW_den]; rfl
  · split at hr <;> try cases hr
    rename_i l k n hx
    rw [intV_den hx, mkBits_den]; rfl
  · split at hr <;> try cases hr
    rename_i l b hx
    rw [boolV_den hx, mkB_den]; rfl
  · cases hr
def opConvI (P : Program) (src dst : TypeId) (x : AV) : Option AV :=
  match P.underlying src, P.underlying dst with
  | some _, some (.int k) => match intV x with
    | some (l, _, n) => some (mkW l k n)
    | none => none
  | some _, some .string => match x with
    | .v (.string s) => some (.v (.string s))
    | _ => none
  | _, _ => none
theorem opConvI_ok {src dst : TypeId} {x r : AV} (hr : opConvI P src dst x = some r) : (convert src dst (x.den e)).run P w = .ok (r.den e) w := by
  unfold opConvI at hr
  split at hr
  · rename_i d k hs hd
    split at hr <;> try cases hr
    rename_i l k' n hx
    rw [intV_den hx, mkW_den]
    simp [convert, run_underlying hs, run_underlying hd, Conv.intToInt]
  · rename_i d hs hd
    split at hr <;> try cases hr
    simp [convert, run_underlying hs, run_underlying hd, AV.den]
  · cases hr

def opFieldAddr (P : Program) (s : TypeId) (a : AV) (f : Nat) : Option AV :=
  match P.underlying s, a with
  | some (.struct fs), .p k o => match fs[f]? with
    | some fd => match P.info? fd.type with
      | some i => if i.size = 0 then none else some (.p k (o + fd.offset))
      | none => none
    | none => none
  | _, _ => none
theorem opFieldAddr_ok {s : TypeId} {a r : AV} {f : Nat} (hr : opFieldAddr P s a f = some r) : (Instr.fieldAt s (a.den e) f).run P w = .ok (r.den e) w := by
  unfold opFieldAddr at hr
  split at hr <;> try cases hr
  rename_i fs k o hu
  split at hr <;> try cases hr
  rename_i fd hf
  split at hr <;> try cases hr
  rename_i i hi
  split at hr <;> try cases hr
  rename_i hz
  simp [Instr.fieldAt, run_underlying hu, hf, AV.den, Instr.sureAddr, fieldPlace, run_sizeOf' hi, hz, add_none]
def opField (P : Program) (t : TypeId) (x : AV) (f : Nat) : Option AV :=
  match P.underlying t, x with
  | some (.struct fs), .a l => match fs[f]? with
    | some fd => takeV P fd.type l fd.offset
    | none => none
  | _, _ => none
theorem opField_ok {t : TypeId} {x r : AV} {f : Nat} (hr : opField P t x f = some r) : (Instr.field t (x.den e) f).run P w = .ok (r.den e) w := by
  unfold opField at hr
  split at hr <;> try cases hr
  rename_i fs l hu
  split at hr <;> try cases hr
  rename_i fd hf
  simp only [Instr.field, Sem.run_bind, run_underlying hu, Result.andThen_ok, hf, AV.den, asAgg, Sem.run_pure]
  exact run_part hr
def opIndexAddr (P : Program) (t : TypeId) (x ix : AV) (pa : List Nat) : Option (AV × List Nat × List Bool) :=
  match decI ix pa with
  | some (_, i, pa', ob) => match P.underlying t, x with
    | some (.array n el), .p k o => match P.info? el with
      | some inf => if 0 ≤ i ∧ i < n then some (.p k (o + i.toNat * inf.size), pa', ob) else none
      | none => none
    | some (.slice el), .s k o n _ => match P.info? el with
      | some inf => if 0 ≤ i ∧ i < n then some (.p k (o + i.toNat * inf.size), pa', ob) else none
      | none => none
    | _, _ => none
  | none => none
theorem opIndexAddr_ok {t : TypeId} {x ix r : AV} {pa pa' : List Nat} {ob : List Bool} (hr : opIndexAddr P t x ix pa = some (r, pa', ob)) (ho : ∀ o ∈ ob, o = true) :
    (Instr.indexAt t (x.den e) (ix.den e)).run P w = .ok (r.den e) w := by
  unfold opIndexAddr at hr
  split at hr <;> try cases hr
  rename_i k0 i pa1 ob1 hd
  split at hr
  · rename_i n el k o hu
    split at hr <;> try cases hr
    rename_i inf hi
    split at hr <;> try cases hr
    rename_i hb
    rw [decI_ok hd ho]
    simp [Instr.indexAt, asIntOf, run_underlying hu, AV.den, Instr.sureAddr, hb, run_sizeOf' hi, add_none]
  · rename_i el k o n c hu
    split at hr <;> try cases hr
    rename_i inf hi
    split at hr <;> try cases hr
    rename_i hb
    rw [decI_ok hd ho]
    simp [Instr.indexAt, asIntOf, run_underlying hu, AV.den, hb, run_sizeOf' hi, add_none]
  · cases hr
def opIndex (P : Program) (t : TypeId) (x ix : AV) (pa : List Nat) : Option (AV × List Nat × List Bool) :=
  match decI ix pa with
  | some (_, i, pa', ob) => match P.underlying t, x with
    | some (.array n el), .a l => match P.info? el with
      | some inf => if 0 ≤ i ∧ i < n then match takeV P el l (i.toNat * inf.size) with
        | some r => some (r, pa', ob)
        | none => none else none
      | none => none
    | some .string, .v (.string s) => if 0 ≤ i then match s[i.toNat]? with
      | some b => some (.n .u8 b.toNat, pa', ob)
      | none => none else none
    | _, _ => none
  | none => none
theorem opIndex_ok {t : TypeId} {x ix r : AV} {pa pa' : List Nat} {ob : List Bool} (hr : opIndex P t x ix pa = some (r, pa', ob)) (ho : ∀ o ∈ ob, o = true) :
    (Instr.index t (x.den e) (ix.den e)).run P w = .ok (r.den e) w := by
  unfold opIndex at hr
  split at hr <;> try cases hr
  rename_i k0 i pa1 ob1 hd
  split at hr
  · rename_i n el l hu
    split at hr <;> try cases hr
    rename_i inf hi
    split at hr <;> try cases hr
    rename_i hb
    split at hr <;> try cases hr
    rename_i r' ht
    rw [decI_ok hd ho]
    simp only [Instr.index, Sem.run_bind, asIntOf, Sem.run_pure, Result.andThen_ok, run_underlying hu, AV.den, hb, and_self, if_true, run_sizeOf' hi]
    exact run_part ht
  · rename_i s hu
    split at hr <;> try cases hr
    rename_i hb
    split at hr <;> try cases hr
    rename_i b hs
    rw [decI_ok hd ho]
    simp [Instr.index, asIntOf, run_underlying hu, AV.den, hb, hs]
  · cases hr
def opExtract (x : AV) (ix : Nat) : Option AV := match x with | .t l => l[ix]? | _ => none
theorem opExtract_ok {x r : AV} {ix : Nat} (hr : opExtract x ix = some r) : (Instr.extract (x.den e) ix).run P w = .ok (r.den e) w := by
  unfold opExtract at hr
  split at hr <;> try cases hr
  simp [Instr.extract, AV.den, denL_get, hr]
def opPick (c a b : AV) (pa : List Nat) : Option (AV × List Nat × List Bool) :=
  match decB c pa with
  | some (t, pa', ob) => some (if t then a else b, pa', ob)
  | none => none
def opNilCheck (x : AV) : Option AV := match x with
  | .p k o => some (.p k o)
  | .f (.func f) x y => some (.f (.func f) x y)
  | .i t x => some (.i t x)
  | _ => none
def opLen (P : Program) (t : TypeId) (x : AV) (h : List Blk) : Option AV :=
  match P.underlying t, x with
  | some .string, .v (.string s) => some (.n .i64 s.size)
  | some (.array n _), _ => some (.n .i64 n)
  | some (.slice _), .s _ _ n _ => some (.n .i64 n)
  | some (.slice _), .v (.slice _ n _) => some (.n .i64 n)
  | _, _ => none
theorem opLen_ok {t ty : TypeId} {x r : AV} (hr : opLen P t x h = some r) : (Builtin.len_ #[t] ty #[x.den e]).run P w = .ok (r.den e) w := by
  unfold opLen at hr
  split at hr <;> try cases hr
  all_goals (rename_i hu; simp [Builtin.len_, run_underlying hu, AV.den, goInt])
def opMm (mx : Bool) (x y : AV) : Option AV :=
  match ri x, ri y with
  | some a, some b => if h : a.k = b.k then some (RI.av (a.l && b.l) a.k (if (if mx then b.i > a.i else b.i < a.i) then b.i else a.i) (by have h1 := a.h; have h2 := b.h; rw [← h] at h2; cases mx <;> (simp only [Bool.false_eq_true, if_false, if_true]; split <;> assumption))) else none
  | _, _ => none
def opMms (mx : Bool) : AV → List AV → Option AV
  | x, [] => some x
  | x, y :: l => match opMm mx x y with
    | some r => opMms mx r l
    | none => none
theorem opMms_max : ∀ (l : List AV) (x r : AV), opMms true x l = some r → ((denL e l).foldlM Builtin.max2 (x.den e)).run P w = .ok (r.den e) w
  | [], x, r, hr => by obtain rfl := Option.some.inj hr; rfl
  | y :: l, x, r, hr => by
    unfold opMms at hr
    split at hr <;> try cases hr
    rename_i z hz
    unfold opMm at hz
    split at hz <;> try cases hz
    rename_i a b hx hy
    split at hz <;> try cases hz
    rename_i hk
    have h1 : Builtin.max2 (x.den e) (y.den e) = pure ((RI.av (a.l && b.l) a.k (if (if true = true then b.i > a.i else b.i < a.i) then b.i else a.i) (by have h1 := a.h; have h2 := b.h; rw [← hk] at h2; simp only [Bool.false_eq_true, if_false, if_true]; split <;> assumption)).den e) := by
      rw [ri_den hx, ri_den hy, av_den, ← hk]; rfl
    simp only [denL, List.foldlM_cons, h1, pure_bind]
    have := opMms_max l _ _ hr
    simpa using this
theorem opMms_min : ∀ (l : List AV) (x r : AV), opMms false x l = some r → ((denL e l).foldlM Builtin.min2 (x.den e)).run P w = .ok (r.den e) w
  | [], x, r, hr => by obtain rfl := Option.some.inj hr; rfl
  | y :: l, x, r, hr => by
    unfold opMms at hr
    split at hr <;> try cases hr
    rename_i z hz
    unfold opMm at hz
    split at hz <;> try cases hz
    rename_i a b hx hy
    split at hz <;> try cases hz
    rename_i hk
    have h1 : Builtin.min2 (x.den e) (y.den e) = pure ((RI.av (a.l && b.l) a.k (if (if false = true then b.i > a.i else b.i < a.i) then b.i else a.i) (by have h1 := a.h; have h2 := b.h; rw [← hk] at h2; simp only [Bool.false_eq_true, if_false, if_true]; split <;> assumption)).den e) := by
      rw [ri_den hx, ri_den hy, av_den, ← hk]; rfl
    simp only [denL, List.foldlM_cons, h1, pure_bind]
    have := opMms_min l _ _ hr
    simpa using this
end
end Go.Proofs.YtpfoifflfgiaoaaGreatDoor
namespace Go.Proofs.YtpfoifflfgiaoaaGreatDoor
open Go Go.RowKit Go.MapKept

section
variable {P : Program} {e : Env} {B : Nat} {h : List Blk} {w : World}
def fillA (place : Nat → Option (Nat × Nat)) (cells : List AV) : List (Nat × AV) → Option (List AV)
  | [] => some cells
  | (i, v) :: rest => match place i, cellsOf v with
    | some (off, size), some vs => if vs.length = size ∧ off + vs.length ≤ cells.length then fillA place (splice cells off vs) rest else none
    | _, _ => none
theorem foldl_splice (off : Nat) : ∀ (vs cs : List Value) (k : Nat), off + k + vs.length ≤ cs.length →
    (vs.zipIdx k).foldl (fun (cs : Array Value) (x : Value × Nat) => cs.setIfInBounds (off + x.2) x.1) cs.toArray = (splice cs (off + k) vs).toArray
  | [], cs, k, _ => by simp [splice_nil]
  | v :: vs, cs, k, hn => by
    simp only [List.length_cons] at hn
    simp only [List.zipIdx_cons, List.foldl_cons, List.setIfInBounds_toArray]
    rw [foldl_splice off vs (cs.set (off + k) v) (k + 1) (by simp; omega), show off + (k + 1) = off + k + 1 by omega, splice_cons _ _ _ _ (by omega)]
theorem fill_ok (place : Nat → Option (Nat × Nat)) : ∀ (parts : List (Nat × AV)) (cells r : List AV), fillA place cells parts = some r →
    Instr.fill place (denL e cells).toArray (parts.map fun p => (p.1, p.2.den e)) = some (denL e r).toArray
  | [], cells, r, hr => by obtain rfl := Option.some.inj hr; rfl
  | (i, v) :: rest, cells, r, hr => by
    unfold fillA at hr
    split at hr <;> try cases hr
    rename_i off size vs hp hv
    split at hr <;> try cases hr
    rename_i hn
    have hc := cellsOf_den (e := e) hv
    simp only [List.map_cons, Instr.fill, hp, hc]
    have h1 : (denL e vs).toArray.size = size := by simp [denL_length, hn.1]
    have h2 : ¬ (off + (denL e vs).toArray.size > (denL e cells).toArray.size) := by simp [denL_length]; omega
    rw [if_neg (by simp only [h1, ne_eq, not_true_eq_false, decide_false, Bool.false_or, decide_eq_true_eq]; rw [h1] at h2; exact h2)]
    have h3 := foldl_splice off (denL e vs) (denL e cells) 0 (by rw [denL_length, denL_length]; omega)
    have h4 : Array.foldl (fun (cs : Array Value) (x : Value × Nat) => cs.setIfInBounds (off + x.2) x.1) (denL e cells).toArray (denL e vs).toArray.zipIdx = (denL e (splice cells off vs)).toArray := by
      rw [denL_splice]
      rw [Nat.add_zero] at h3
      rw [← h3]
      simp
    exact (congrArg (fun c => Instr.fill place c (rest.map fun p => (p.1, p.2.den e))) h4).trans (fill_ok place rest _ _ hr)
def placesA (P : Program) : List Field → Option (List (Nat × Nat))
  | [] => some []
  | f :: fs => match P.info? f.type, placesA P fs with
    | some i, some l => some ((f.offset, i.size) :: l)
    | _, _ => none
theorem run_places : ∀ (fs : List Field) (l : List (Nat × Nat)), placesA P fs = some l → (fs.mapM (fun f => do pure (f.offset, ← sizeOf f.type) : Field → Sem (Nat × Nat))).run P w = .ok l w
  | [], l, hl => by obtain rfl := Option.some.inj hl; rfl
  | f :: fs, l, hl => by
    unfold placesA at hl
    split at hl <;> try cases hl
    rename_i i l' hi hl'
    simp only [List.mapM_cons, Sem.run_bind, run_sizeOf' hi, Result.andThen_ok, Sem.run_pure, run_places fs l' hl']
def opBuild (P : Program) (t : TypeId) (parts : List (Nat × AV)) : Option AV :=
  match P.info? t with
  | some i => match i.zero with
    | some z => match cellsOf (lift z), P.underlying t with
      | some zl, some (.struct fs) => match placesA P fs.toList with
        | some pl => match fillA (fun i => pl[i]?) zl parts with
          | some r => some (.a r)
          | none => none
        | none => none
      | some zl, some (.array _ el) => match P.info? el with
        | some j => match fillA (fun i => some (i * j.size, j.size)) zl parts with
          | some r => some (.a r)
          | none => none
        | none => none
      | _, _ => none
    | none => none
  | none => none
theorem opBuild_ok {t : TypeId} {parts : List (Nat × AV)} {r : AV} (hr : opBuild P t parts = some r) : (Instr.build t (parts.map fun p => (p.1, p.2.den e)).toArray).run P w = .ok (r.den e) w := by
  unfold opBuild at hr
  split at hr <;> try cases hr
  rename_i i hi
  split at hr <;> try cases hr
  rename_i z hz
  split at hr
  · rename_i zl fs hzl hu
    split at hr <;> try cases hr
    rename_i pl hpl
    split at hr <;> try cases hr
    rename_i r' hf
    have hc := cellsOf_den (e := e) hzl
    rw [lift_den] at hc
    have := fill_ok (e := e) (fun i => pl[i]?) parts zl r' hf
    simp only [Instr.build, Sem.run_bind, run_zeroValue' hi hz, Result.andThen_ok, run_underlying hu, Array.mapM_eq_mapM_toList, Sem.run_map, run_places _ _ hpl, hc, List.getElem?_toArray, this, Sem.run_pure, AV.den]
  · rename_i zl n el hzl hu
    split at hr <;> try cases hr
    rename_i j hj
    split at hr <;> try cases hr
    rename_i r' hf
    have hc := cellsOf_den (e := e) hzl
    rw [lift_den] at hc
    have := fill_ok (e := e) (fun i => some (i * j.size, j.size)) parts zl r' hf
    simp only [Instr.build, Sem.run_bind, run_zeroValue' hi hz, Result.andThen_ok, run_underlying hu, run_sizeOf' hj, hc, this, Sem.run_pure, AV.den]
  · cases hr
/-- n cells, as the zero value has them -/
def rowZ (zl : List AV) (n : Nat) : List AV := (List.range n).map fun i => (zl[i % zl.length]?).getD (.v default)
theorem rowZ_den (zl : List AV) (n : Nat) : (Array.range n).map (fun i => (denL e zl).toArray[i % (denL e zl).toArray.size]!) = (denL e (rowZ zl n)).toArray := by
  unfold rowZ
  conv => rhs; rw [denL_map, List.map_map]
  apply Array.ext'
  simp only [Array.toList_map, Array.toList_range]
  apply List.map_congr_left
  intro i _
  simp only [List.size_toArray, denL_length, List.getElem!_toArray, Function.comp]
  rw [List.getElem!_eq_getElem?_getD, denL_get]
  cases zl[i % zl.length]? <;> rfl
def zeroRow (P : Program) (el : TypeId) (n : Nat) : Option (List AV) :=
  if n = 0 then some [] else match P.info? el with
  | some i => match i.zero with
    | some z => match cellsOf (lift z) with
      | some zl => some (rowZ zl n)
      | none => none
    | none => none
  | none => none
theorem run_zeroRow {el : TypeId} {n : Nat} {l : List AV} (hl : zeroRow P el n = some l) :
    (n = 0 ∧ l = []) ∨ (n ≠ 0 ∧ ∃ z : Value, (zeroValue el).run P w = .ok z w ∧ (Array.range n).map (fun i => z.cells[i % z.cells.size]!) = (denL e l).toArray) := by
  unfold zeroRow at hl
  split at hl
  · rename_i hn
    obtain rfl := Option.some.inj hl
    exact .inl ⟨hn, rfl⟩
  · rename_i hn
    split at hl <;> try cases hl
    rename_i i hi
    split at hl <;> try cases hl
    rename_i z hz
    split at hl <;> try cases hl
    rename_i zl hzl
    have hc := cellsOf_den (e := e) hzl
    rw [lift_den] at hc
    refine .inr ⟨hn, z, run_zeroValue' hi hz w, ?_⟩
    rw [hc]
    exact rowZ_den zl n
def opBuildSlice (P : Program) (t : TypeId) (n : Nat) (parts : List (Nat × AV)) (h : List Blk) : Option (AV × List Blk) :=
  match P.underlying t with
  | some (.slice el) => match P.info? el with
    | some j => if n * j.size ≤ 16777216 then match zeroRow P el (n * j.size) with
      | some zl => match fillA (fun i => some (i * j.size, j.size)) zl parts with
        | some r => if scL (lt h.length) r then some (.s h.length 0 n (some n), h ++ [.cells el (0, 0) r]) else none
        | none => none
      | none => none else none
    | none => none
  | _ => none
theorem opBuildSlice_ok {t : TypeId} {n : Nat} {parts : List (Nat × AV)} {r : AV} {h' : List Blk} (hs : SR e B h w) (hr : opBuildSlice P t n parts h = some (r, h')) :
    Does e B h w ((Instr.buildSlice t n (parts.map fun p => (p.1, p.2.den e)).toArray).run P w) r h' [] := by
  unfold opBuildSlice at hr
  split at hr <;> try cases hr
  rename_i el hu
  split at hr <;> try cases hr
  rename_i j hj
  split at hr <;> try cases hr
  rename_i hn
  split at hr <;> try cases hr
  rename_i zl hzl
  split at hr <;> try cases hr
  rename_i r' hf
  split at hr <;> try cases hr
  rename_i hsc
  have hfl := fill_ok (e := e) (fun i => some (i * j.size, j.size)) parts zl r' hf
  obtain ⟨e', w', h1, h2, h3⟩ := does_new hs el r' hsc
  refine ⟨e', w', ?_, ?_, ?_⟩
  rotate_left
  · exact h2
  · rw [List.length_append, List.length_singleton] at h3 ⊢; exact h3
  injection h1 with h1 hw
  simp only [AV.den, Value.pointer.injEq, Option.some.injEq, Addr.mk.injEq, and_true] at h1
  have hn' : ¬ (n * j.size > 2 ^ 24) := by omega
  rcases run_zeroRow (P := P) (e := e) (w := w) hzl with ⟨h0, rfl⟩ | ⟨h0, z, hz1, hz2⟩
  · simp only [denL] at hfl
    simp only [Instr.buildSlice, Sem.run_bind, run_underlying hu, Result.andThen_ok, run_sizeOf' hj, Sem.run_ite, h0, show ¬ (0 > 2 ^ 24) by decide, if_false, if_true, Sem.run_pure, show Array.range 0 = #[] from rfl, Array.map_empty, hfl, newRow, run_newObj_alloc, AV.den]
    rw [hw, h1]
  · simp only [Instr.buildSlice, Sem.run_bind, run_underlying hu, Result.andThen_ok, run_sizeOf' hj, Sem.run_ite, hn', if_false, h0, hz1, hz2, hfl, newRow, run_newObj_alloc, Sem.run_pure, AV.den]
    rw [hw, h1]

/-! slices of slices, of arrays -/
def bound (x : AV) (y : Nat) (pa : List Nat) : Option (Nat × List Nat × List Bool) :=
  match decI x pa with
  | some (_, i, pa', ob) => if 0 ≤ i ∧ i ≤ y then some (i.toNat, pa', ob) else none
  | none => none
theorem bound_ok {x : AV} {y n : Nat} {pa pa' : List Nat} {ob : List Bool} (hr : bound x y pa = some (n, pa', ob)) (ho : ∀ o ∈ ob, o = true) (code : BoundsCode) : (Instr.sliceBound (x.den e) y code).run P w = .ok n w := by
  unfold bound at hr
  split at hr <;> try cases hr
  rename_i k i pa1 ob1 hd
  split at hr <;> try cases hr
  rename_i hb
  rw [decI_ok hd ho]
  simp [Instr.sliceBound, asIntOf, hb]
def boundO (x : Option AV) (y d : Nat) (pa : List Nat) : Option (Nat × List Nat × List Bool) :=
  match x with
  | some x => bound x y pa
  | none => some (d, pa, [])
/-- low, high, max of a slice expression -/
def boundsA (len cap : Nat) (lo hi mx : Option AV) (pa : List Nat) : Option (Nat × Nat × Nat × List Nat × List Bool) :=
  match boundO mx cap cap pa with
  | some (m, pa1, ob1) => if hi.isNone && mx.isSome then none else match boundO hi (if mx.isSome then m else cap) len pa1 with
    | some (hh, pa2, ob2) => match boundO lo hh 0 pa2 with
      | some (l, pa3, ob3) => some (l, hh, m, pa3, ob1 ++ ob2 ++ ob3)
      | none => none
    | none => none
  | none => none
theorem boundsA_ok {len cap l hh m : Nat} {lo hi mx : Option AV} {pa pa' : List Nat} {ob : List Bool} (hr : boundsA len cap lo hi mx pa = some (l, hh, m, pa', ob)) (ho : ∀ o ∈ ob, o = true) (sl : Bool) :
    (Instr.sliceBounds sl len cap (lo.map (·.den e)) (hi.map (·.den e)) (mx.map (·.den e))).run P w = .ok (l, hh, m) w := by
  unfold boundsA at hr
  split at hr <;> try cases hr
  rename_i m' pa1 ob1 h1
  split at hr <;> try cases hr
  rename_i hg
  split at hr <;> try cases hr
  rename_i hh' pa2 ob2 h2
  split at hr <;> try cases hr
  rename_i l' pa3 ob3 h3
  have o1 : ∀ o ∈ ob1, o = true := fun o ho' => ho o (List.mem_append_left _ (List.mem_append_left _ ho'))
  have o2 : ∀ o ∈ ob2, o = true := fun o ho' => ho o (List.mem_append_left _ (List.mem_append_right _ ho'))
  have o3 : ∀ o ∈ ob3, o = true := fun o ho' => ho o (List.mem_append_right _ ho')
  cases mx with
  | none =>
    simp only [boundO, Option.some.injEq, Prod.mk.injEq] at h1
    obtain ⟨rfl, rfl, rfl⟩ := h1
    cases hi with
    | none =>
      simp only [boundO, Option.some.injEq, Prod.mk.injEq] at h2
      obtain ⟨rfl, rfl, rfl⟩ := h2
      cases lo with
      | none =>
        simp only [boundO, Option.some.injEq, Prod.mk.injEq] at h3
        obtain ⟨rfl, rfl, rfl⟩ := h3
        simp [Instr.sliceBounds]
      | some lo =>
        simp only [boundO] at h3
        simp [Instr.sliceBounds, bound_ok h3 o3]
    | some hi =>
      simp only [boundO, Option.isSome_none, Bool.false_eq_true, if_false] at h2
      cases lo with
      | none =>
        simp only [boundO, Option.some.injEq, Prod.mk.injEq] at h3
        obtain ⟨rfl, rfl, rfl⟩ := h3
        simp [Instr.sliceBounds, bound_ok h2 o2]
      | some lo =>
        simp only [boundO] at h3
        simp [Instr.sliceBounds, bound_ok h2 o2, bound_ok h3 o3]
  | some mx =>
    simp only [boundO] at h1
    cases hi with
    | none => simp at hg
    | some hi =>
      simp only [boundO, Option.isSome_some, if_true] at h2
      cases lo with
      | none =>
        simp only [boundO, Option.some.injEq, Prod.mk.injEq] at h3
        obtain ⟨rfl, rfl, rfl⟩ := h3
        simp [Instr.sliceBounds, bound_ok h1 o1, bound_ok h2 o2]
      | some lo =>
        simp only [boundO] at h3
        simp [Instr.sliceBounds, bound_ok h1 o1, bound_ok h2 o2, bound_ok h3 o3]
def opSlice (P : Program) (t : TypeId) (x : AV) (lo hi mx : Option AV) (pa : List Nat) : Option (AV × List Nat × List Bool) :=
  match P.underlying t, x with
  | some (.array n el), .p k o => match boundsA n n lo hi mx pa, P.info? el with
    | some (l, hh, m, pa', ob), some j => some (.s k (if m = l then o else o + l * j.size) (hh - l) (some (m - l)), pa', ob)
    | _, _ => none
  | some (.slice el), .s k o n (some c) => match boundsA n c lo hi mx pa, P.info? el with
    | some (l, hh, m, pa', ob), some j => some (.s k (if m = l then o else o + l * j.size) (hh - l) (some (m - l)), pa', ob)
    | _, _ => none
  | some .string, .v (.string s) => if mx.isSome then none else match boundsA s.size s.size lo hi none pa with
    | some (l, hh, _, pa', ob) => some (.v (.string (s.extract l hh)), pa', ob)
    | none => none
  | _, _ => none
theorem opSlice_ok {t : TypeId} {x r : AV} {lo hi mx : Option AV} {pa pa' : List Nat} {ob : List Bool} (hr : opSlice P t x lo hi mx pa = some (r, pa', ob)) (ho : ∀ o ∈ ob, o = true) :
    (Instr.sliceAt t (x.den e) (lo.map (·.den e)) (hi.map (·.den e)) (mx.map (·.den e))).run P w = .ok (r.den e) w := by
  unfold opSlice at hr
  split at hr
  · rename_i n el k o hu
    split at hr <;> try cases hr
    rename_i l hh m j hj hb
    simp only [Instr.sliceAt, Sem.run_bind, run_underlying hu, Result.andThen_ok, AV.den, Instr.sureAddr, Sem.run_pure, boundsA_ok hb ho false, run_sizeOf' hj]
    split <;> simp [add_none]
  · rename_i el k o n c hu
    split at hr <;> try cases hr
    rename_i l hh m j hj hb
    simp only [Instr.sliceAt, Instr.slice, Sem.run_bind, run_underlying hu, Result.andThen_ok, AV.den, Sem.run_pure, boundsA_ok hb ho true, run_sizeOf' hj]
    split <;> simp [add_none]
  · rename_i s hu
    split at hr <;> try cases hr
    rename_i hm
    split at hr <;> try cases hr
    rename_i l hh m hb
    have hmx : mx = none := by cases mx <;> simp_all
    subst hmx
    have := boundsA_ok (P := P) (e := e) (w := w) hb ho false
    simp only [Option.map_none] at this
    simp [Instr.sliceAt, Instr.slice, run_underlying hu, AV.den, this]
  · cases hr

/-! maps -/
def opMakeMap (h : List Blk) : AV × List Blk := (.m h.length, h ++ [.map [] 0])
theorem opMakeMap_ok (hs : SR e B h w) (t : TypeId) : Does e B h w ((Instr.makeMap t none).run P w) (opMakeMap h).1 (opMakeMap h).2 [] := by
  refine ⟨e.ext h.length w.heap.size 0, w.alloc (.map #[] 0), ?_, hs.alloc (.map [] 0) 0 _ ?_ rfl, by simp only [opMakeMap, List.length_append, List.length_singleton]; exact Po.alloc e h.length 0 w _ hs.size⟩
  · simp [opMakeMap, AV.den, Env.ext_β, Instr.makeMap]
  · simp only [BR, Env.ext_β]
    exact ⟨hs.size, by rw [heap_new]; rfl⟩
def eqKey (d : TypeDesc) (x y : AV) (pa : List Nat) : Dec :=
  match d, intV x, intV y with
  | .int q, some (l, k, a), some (l', k', b) => if k = q ∧ k' = q then decB (mkB (l && l') (a == b)) pa else none
  | _, _, _ => match d, x, y with
    | .string, .v (.string a), .v (.string b) => some (a.data.toList == b.data.toList, pa, [])
    | _, _, _ => none
theorem eqKey_ok {d : TypeDesc} {x y : AV} {pa pa' : List Nat} {b : Bool} {ob : List Bool} (hr : eqKey d x y pa = some (b, pa', ob)) (ho : ∀ o ∈ ob, o = true) :
    Instr.sameNow d (x.den e) (y.den e) = some b ∧ IsKey d (x.den e) := by
  unfold eqKey at hr
  split at hr
  · rename_i q l k a l' k' b' hx hy
    split at hr <;> try cases hr
    rename_i hk
    have := decB_ok (e := e) hr ho
    rw [mkB_den] at this
    injection this with this
    rw [intV_den hx, intV_den hy]
    simp [Instr.sameNow, IsKey, hk.1, hk.2, this]
  · split at hr <;> try cases hr
    rename_i a b' _
    simp only [AV.den, Instr.sameNow, IsKey, and_true]
    rw [beq_toListBytes, ByteArray.toList_eq, ByteArray.toList_eq]
def findA (d : TypeDesc) (x : AV) : List (AV × AV × Nat) → List Nat → Option (Option AV × List Nat × List Bool)
  | [], pa => some (none, pa, [])
  | (k, v, _) :: es, pa => match eqKey d x k pa with
    | some (true, pa', ob) => some (some v, pa', ob)
    | some (false, pa', ob) => match findA d x es pa' with
      | some (r, pa'', ob') => some (r, pa'', ob ++ ob')
      | none => none
    | none => none
theorem findA_ok {d : TypeDesc} {x : AV} : ∀ (es : List (AV × AV × Nat)) (pa : List Nat) (r : Option AV) (pa' : List Nat) (ob : List Bool) (i : Nat), findA d x es pa = some (r, pa', ob) → (∀ o ∈ ob, o = true) →
    ∃ j : Nat, Instr.findNow d (x.den e) (denE e es).toList i = some (r.map fun v => (j, v.den e))
  | [], pa, r, pa', ob, i, hr, _ => by
    simp only [findA, Option.some.injEq, Prod.mk.injEq] at hr
    obtain ⟨rfl, _, _⟩ := hr
    exact ⟨0, rfl⟩
  | (k, v, n) :: es, pa, r, pa', ob, i, hr, ho => by
    unfold findA at hr
    split at hr <;> try cases hr
    · rename_i hq
      exact ⟨i, by simp [denE, Instr.findNow, (eqKey_ok (e := e) hq ho).1]⟩
    · rename_i pa1 ob1 hq
      split at hr <;> try cases hr
      rename_i ob2 hq2
      obtain ⟨j, hj⟩ := findA_ok es pa1 r pa' ob2 (i + 1) hq2 fun o h => ho o (List.mem_append_right _ h)
      have h1 := (eqKey_ok (e := e) hq fun o h => ho o (List.mem_append_left _ h)).1
      simp only [denE] at hj ⊢
      exact ⟨j, by simpa [Instr.findNow, h1] using hj⟩
def isKeyA (d : TypeDesc) (x : AV) : Bool := match d with
  | .int q => match intV x with | some (_, k, _) => k == q | none => false
  | .string => match x with | .v (.string _) => true | _ => false
  | _ => false
theorem isKeyA_ok {d : TypeDesc} {x : AV} (hx : isKeyA d x = true) : IsKey d (x.den e) := by
  unfold isKeyA at hx
  split at hx
  · split at hx
    · rename_i q _ k i hi
      rw [intV_den hi]; simpa [IsKey] using hx
    · cases hx
  · split at hx
    · trivial
    · cases hx
  · cases hx
/-- an entry of a map that is being laid -/
def opInsert (P : Program) (t : TypeId) (m key val : AV) (h : List Blk) : Option (List Blk × List Nat) :=
  match P.underlying t, m with
  | some (.map kt _), .m id => match P.underlying kt, h[id]? with
    | some d, some (.map es c) => if isKeyA d key && key.sc (lt h.length) && val.sc (lt h.length) then match findA d key es [] with
      | some (none, _, []) => some (h.set id (.map (es ++ [(key, val, c)]) (c + 1)), [id])
      | _ => none else none
    | _, _ => none
  | _, _ => none
theorem opInsert_ok {t : TypeId} {m key val : AV} {h' : List Blk} {d : List Nat} (hs : SR e B h w) (hr : opInsert P t m key val h = some (h', d)) :
    ∃ w', (Instr.mapUpdate t (m.den e) (key.den e) (val.den e)).run P w = .ok () w' ∧ SR e B h' w' ∧ Po B e h.length d w e h'.length w' := by
  unfold opInsert at hr
  split at hr <;> try cases hr
  rename_i kt et id hu
  split at hr <;> try cases hr
  rename_i dd es c hk hid
  split at hr <;> try cases hr
  rename_i hg
  simp only [Bool.and_eq_true] at hg
  split at hr <;> try cases hr
  rename_i hf
  obtain ⟨j, hj⟩ := findA_ok (e := e) es [] none _ [] 0 hf (fun _ h => by cases h)
  have hb := hs.blk id _ hid
  simp only [BR] at hb
  have hset := heap_set (o' := .map ((denE e es).push { key := key.den e, val := val.den e, born := c }) (c + 1)) hb.2
  refine ⟨{ w with heap := w.heap.setIfInBounds (e.β id) (.map ((denE e es).push { key := key.den e, val := val.den e, born := c }) (c + 1)) }, ?_, ?_, ?_⟩
  · simp only [Instr.mapUpdate, Sem.run_bind, run_underlying hu, Result.andThen_ok, AV.den, MapKept.run_getObj_map hb.2, run_checkKey hk (isKeyA_ok hg.1.1), run_findKey hk hj, Option.map_none, MapKept.run_setObj_map _ hb.2]
  · refine hs.upd hid rfl (by simp) (fun g hg _ => hset.2 g hg) ?_ ?_
    · simp only [BR]
      refine ⟨hb.1, ?_⟩
      rw [hset.1]
      simp [denE]
    · simp only [Blk.sc, List.all_append, List.all_cons, List.all_nil, Bool.and_true, Bool.and_eq_true]
      exact ⟨by have := hs.sc id _ hid; simpa only [Blk.sc] using this, hg.1.2, hg.2⟩
  · rw [List.length_set]
    exact Po.of ⟨rfl, rfl, rfl, by simp, fun b _ hne => hset.2 b fun h => hne id (List.getElem?_eq_some_iff.1 hid).1 (by simp) h.symm⟩ fun g hg => hset.2 g (by have := hb.1; omega)
def opLookup (P : Program) (t : TypeId) (m key : AV) (ok : Bool) (h : List Blk) (pa : List Nat) : Option (AV × List Nat × List Bool) :=
  match P.underlying t, m with
  | some (.map kt et), .m id => match P.underlying kt, h[id]? with
    | some d, some (.map es c) => if isKeyA d key then match findA d key es pa with
      | some (some v, pa', ob) => some (if ok then .t [v, .b true] else v, pa', ob)
      | some (none, pa', ob) => match P.info? et with
        | some i => match i.zero with
          | some z => some (if ok then .t [lift z, .b false] else lift z, pa', ob)
          | none => none
        | none => none
      | none => none else none
    | _, _ => none
  | _, _ => none
theorem opLookup_ok {t : TypeId} {m key r : AV} {ok : Bool} {pa pa' : List Nat} {ob : List Bool} (hs : SR e B h w) (hr : opLookup P t m key ok h pa = some (r, pa', ob)) (ho : ∀ o ∈ ob, o = true) :
    (Instr.lookup t (m.den e) (key.den e) ok).run P w = .ok (r.den e) w := by
  unfold opLookup at hr
  split at hr <;> try cases hr
  rename_i kt et id hu
  split at hr <;> try cases hr
  rename_i dd es c hk hid
  split at hr <;> try cases hr
  rename_i hg
  have hb := hs.blk id _ hid
  simp only [BR] at hb
  split at hr <;> try cases hr
  · rename_i v hf
    obtain ⟨j, hj⟩ := findA_ok (e := e) es pa _ _ _ 0 hf ho
    simp only [Instr.lookup, Sem.run_bind, run_underlying hu, Result.andThen_ok, AV.den, MapKept.run_getObj_map hb.2, Sem.run_pure, run_checkKey hk (isKeyA_ok hg), run_findKey hk hj, Option.map_some]
    cases ok <;> simp [AV.den, denL]
  · rename_i pa1 ob1 hf
    split at hr <;> try cases hr
    rename_i i hi
    split at hr <;> try cases hr
    rename_i z hz
    obtain ⟨j, hj⟩ := findA_ok (e := e) es pa _ _ _ 0 hf ho
    simp only [Instr.lookup, Sem.run_bind, run_underlying hu, Result.andThen_ok, AV.den, MapKept.run_getObj_map hb.2, Sem.run_pure, run_checkKey hk (isKeyA_ok hg), run_findKey hk hj, Option.map_none, run_zeroValue' hi hz]
    cases ok <;> simp [AV.den, denL, lift_den]
end
end Go.Proofs.YtpfoifflfgiaoaaGreatDoor
namespace Go.Proofs.YtpfoifflfgiaoaaGreatDoor
open Go Go.RowKit Go.MapKept

section
variable {P : Program} {e : Env} {B : Nat} {h : List Blk} {w : World}
def litI (x : AV) : Option Int := match x with | .n _ i => some i | _ => none
theorem litI_den {x : AV} {i : Int} (hx : litI x = some i) : ∃ k, x.den e = .int k i := by
  unfold litI at hx
  split at hx
  · obtain rfl := Option.some.inj hx; exact ⟨_, rfl⟩
  · cases hx
def opMakeSlice (P : Program) (t : TypeId) (l c : AV) (h : List Blk) : Option (AV × List Blk) :=
  match P.underlying t, litI l, litI c with
  | some (.slice el), some l, some c => match P.info? el with
    | some j => if 0 ≤ l ∧ l ≤ c ∧ j.bytes * c ≤ 281474976710656 ∧ c ≤ 9223372036854775807 then match zeroRow P el (c.toNat * j.size) with
      | some zl => if scL (lt h.length) zl then some (.s h.length 0 l.toNat (some c.toNat), h ++ [.cells el (0, 0) zl]) else none
      | none => none else none
    | none => none
  | _, _, _ => none
theorem opMakeSlice_ok {t : TypeId} {l c r : AV} {h' : List Blk} (hs : SR e B h w) (hr : opMakeSlice P t l c h = some (r, h')) : Does e B h w ((Instr.makeSlice t (l.den e) (c.den e)).run P w) r h' [] := by
  unfold opMakeSlice at hr
  split at hr <;> try cases hr
  rename_i el li ci hu hl hc
  split at hr <;> try cases hr
  rename_i j hj
  split at hr <;> try cases hr
  rename_i hb
  obtain ⟨b1, b2, b3, b4⟩ := hb
  split at hr <;> try cases hr
  rename_i zl hzl
  split at hr <;> try cases hr
  rename_i hsc
  obtain ⟨kl, hl⟩ := litI_den (e := e) hl
  obtain ⟨kc, hc⟩ := litI_den (e := e) hc
  obtain ⟨e', w', h1, h2, h3⟩ := does_new hs el zl hsc
  refine ⟨e', w', ?_, h2, by rw [List.length_append, List.length_singleton] at h3 ⊢; exact h3⟩
  injection h1 with h1 hw
  simp only [AV.den, Value.pointer.injEq, Option.some.injEq, Addr.mk.injEq, and_true] at h1
  have w1 : IntKind.i64.wrap li = li := IntWalk.i64_in _ (by omega)
  have w2 : IntKind.i64.wrap ci = ci := IntWalk.i64_in _ (by omega)
  have n1 : ¬ ((decide (ci < 0) || decide ((j.bytes : Int) * ci > 2 ^ 48) || decide (li < 0) || decide (li > ci)) = true) := by
    simp only [Bool.or_eq_true, decide_eq_true_eq]
    have : (2 : Int) ^ 48 = 281474976710656 := by decide
    omega
  rcases run_zeroRow (P := P) (e := e) (w := w) hzl with ⟨h0, rfl⟩ | ⟨h0, z, hz1, hz2⟩
  · simp only [Instr.makeSlice, hl, hc, Sem.run_bind, run_underlying hu, Result.andThen_ok, asInt, asIntOf, Sem.run_pure, run_typeInfo' hj, w1, w2, Sem.run_ite, n1, if_false, run_askRoom, run_sizeOf' hj, h0, if_true, show Array.range 0 = #[] from rfl, Array.map_empty, newRow, run_newObj_alloc, AV.den, denL]
    rw [← h1, ← hw]; rfl
  · simp only [Instr.makeSlice, hl, hc, Sem.run_bind, run_underlying hu, Result.andThen_ok, asInt, asIntOf, Sem.run_pure, run_typeInfo' hj, w1, w2, Sem.run_ite, n1, if_false, run_askRoom, run_sizeOf' hj, h0, hz1, hz2, newRow, run_newObj_alloc, AV.den]
    rw [← h1, ← hw]; rfl

/-! texts that are gone through -/
def opRange (P : Program) (t : TypeId) (x : AV) (h : List Blk) : Option (AV × List Blk) :=
  match P.underlying t, x with
  | some .string, .v (.string s) => some (.p h.length 0, h ++ [.iter s 0])
  | _, _ => none
theorem opRange_ok {t : TypeId} {x r : AV} {h' : List Blk} (hs : SR e B h w) (hr : opRange P t x h = some (r, h')) : Does e B h w ((Instr.range t (x.den e)).run P w) r h' [] := by
  unfold opRange at hr
  split at hr <;> try cases hr
  rename_i s hu
  refine ⟨e.ext h.length w.heap.size 0, w.alloc (.stringIter s 0), ?_, hs.alloc (.iter s 0) 0 _ ?_ rfl, by rw [List.length_append, List.length_singleton]; exact Po.alloc e h.length 0 w _ hs.size⟩
  · simp [Instr.range, run_underlying hu, AV.den, Env.ext_β]
  · simp only [BR, Env.ext_β]
    exact ⟨hs.size, heap_new _ _⟩
def opNext (it : AV) (isString : Bool) (h : List Blk) : Option (AV × List Blk × List Nat) :=
  match it, isString with
  | .p k 0, true => match h[k]? with
    | some (.iter s pos) => if pos < s.size then some (.t [.b true, .n .i64 pos, .n .i32 (Utf8.decode s pos).1], h.set k (.iter s (pos + (Utf8.decode s pos).2)), [k]) else some (.t [.b false], h, [])
    | _ => none
  | _, _ => none
theorem opNext_ok {it r : AV} {isString : Bool} {h' : List Blk} {d : List Nat} (ty : TypeId) (hs : SR e B h w) (hr : opNext it isString h = some (r, h', d)) : Does e B h w ((Instr.next (it.den e) isString ty).run P w) r h' d := by
  unfold opNext at hr
  split at hr <;> try cases hr
  rename_i k
  split at hr <;> try cases hr
  rename_i s pos hk
  have hb := hs.blk k _ hk
  simp only [BR] at hb
  have hget : (getObj (e.β k)).run P w = .ok (.stringIter s pos) w := by simp [getObj, Sem.run, hb.2]
  have hset : ∀ o, (setObj (e.β k) o).run P w = .ok () { w with heap := w.heap.setIfInBounds (e.β k) o } := fun o => by simp [setObj, Sem.run, hb.2]
  split at hr
  · rename_i hp
    simp only [Option.some.injEq, Prod.mk.injEq] at hr
    obtain ⟨rfl, rfl, rfl⟩ := hr
    have hst := heap_set (o' := .stringIter s (pos + (Utf8.decode s pos).2)) hb.2
    refine ⟨e, { w with heap := w.heap.setIfInBounds (e.β k) (.stringIter s (pos + (Utf8.decode s pos).2)) }, ?_, ?_, ?_⟩
    · simp only [Instr.next, AV.den, Sem.run_bind, hget, Result.andThen_ok, hp, if_true, hset, Sem.run_pure, denL, goInt]
    · refine hs.upd hk rfl (by simp) (fun g hg _ => hst.2 g hg) ?_ rfl
      simp only [BR]
      exact ⟨hb.1, hst.1⟩
    · rw [List.length_set]
      exact Po.of ⟨rfl, rfl, rfl, by simp, fun b _ hne => hst.2 b fun h => hne k (List.getElem?_eq_some_iff.1 hk).1 (by simp) h.symm⟩ fun g hg => hst.2 g (by have := hb.1; omega)
  · rename_i hp
    simp only [Option.some.injEq, Prod.mk.injEq] at hr
    obtain ⟨rfl, rfl, rfl⟩ := hr
    refine Does.quiet hs ?_
    simp only [Instr.next, AV.den, Sem.run_bind, hget, Result.andThen_ok, hp, if_false, Sem.run_pure, denL]

/-! append -/
/-- what is appended: how many elements, and their cells -/
def newEls (size : Nat) (x : AV) (h : List Blk) : Option (Nat × List AV) :=
  match x with
  | .v (.string s) => some (s.size, s.data.toList.map fun b => .n .u8 b.toNat)
  | .v (.slice none n _) => if n = 0 then some (0, []) else none
  | .s k o n _ => match h[k]? with
    | some b => match b.seen with
      | some l => if o + n * size ≤ l.length then some (n, (l.drop o).take (n * size)) else none
      | none => none
    | none => none
  | _ => none
theorem newEls_ok {size n : Nat} {x : AV} {l : List AV} (hs : SR e B h w) (hr : newEls size x h = some (n, l)) : (Builtin.lenOf (x.den e)).run P w = .ok n w ∧ ∀ w', (∀ k b, h[k]? = some b → ∀ l, b.seen = some l → ∀ (i : Nat) (v : Value), (denL e l)[i]? = some v → w'.cell? ⟨e.β k, i, none⟩ = some v) →
    (Builtin.firstCells size n (x.den e)).run P w' = .ok (denL e l).toArray w' := by
  unfold newEls at hr
  split at hr
  · rename_i s
    simp only [Option.some.injEq, Prod.mk.injEq] at hr
    obtain ⟨rfl, rfl⟩ := hr
    refine ⟨rfl, fun w' _ => ?_⟩
    have h1 : s.extract 0 s.size = s := by
      apply ByteArray.ext
      simp
    simp only [AV.den, Builtin.firstCells, h1, Sem.run_pure]
    congr 1
    apply Array.ext'
    simp only [Array.toList_map, denL_map, List.map_map]
    apply List.map_congr_left
    intro b _; rfl
  · split at hr <;> try cases hr
    rename_i hn
    subst hn
    exact ⟨rfl, fun w' _ => rfl⟩
  · rename_i k o n' c
    split at hr <;> try cases hr
    rename_i b hb
    split at hr <;> try cases hr
    rename_i l' hl'
    split at hr <;> try cases hr
    rename_i hlen
    refine ⟨rfl, fun w' hc => ?_⟩
    simp only [AV.den, Builtin.firstCells]
    have hl : (denL e ((l'.drop o).take (n * size))).length = n * size := by rw [denL_length]; simp; omega
    have := run_loadCells (P := P) (e.β k) o w' (denL e ((l'.drop o).take (n * size))) fun j v hj => hc k b hb l' hl' (o + j) v (by
      rw [denL_drop_take, List.getElem?_take] at hj
      split at hj
      · rwa [List.getElem?_drop] at hj
      · cases hj)
    rw [hl] at this
    exact this
  · cases hr
theorem seen_all (hs : SR e B h w) : ∀ k b, h[k]? = some b → ∀ l, b.seen = some l → ∀ (i : Nat) (v : Value), (denL e l)[i]? = some v → w.cell? ⟨e.β k, i, none⟩ = some v := fun k b hb l hl => seen_cell hs hb hl
theorem growBy_le (n : Nat) : ∀ (r c : Nat), c ≤ 2 * n + 1024 → Builtin.growBy n r c ≤ 2 * n + 1024
  | 0, c, h => h
  | r + 1, c, h => by
    unfold Builtin.growBy
    split
    · exact h
    · exact growBy_le n r _ (by omega)
theorem nextcap_le {n c : Nat} (h : c < n) : Builtin.nextslicecap n c ≤ 2 * n + 1024 := by
  unfold Builtin.nextslicecap
  split
  · omega
  · split
    · omega
    · exact growBy_le n 4 c (by omega)
theorem grow_den (e : Env) (l l' : List AV) : denL e (l ++ l') = denL e l ++ denL e l' := by simp [denL_map]
theorem not_int {d : TypeDesc} (h : ∀ k, d ≠ .int k) : (match d with | .int _ => true | _ => false) = false := by
  cases d <;> first | rfl | exact absurd rfl (h _)
/-- append with room -/
theorem run_app_room {tS tX ty el : TypeId} {dX : TypeDesc} {j : TypeInfo} {n sLen sCap : Nat} {a : Addr} {X : Value} {new : Array Value} {w1 : World} (hu : P.underlying tS = some (.slice el)) (huX : P.underlying tX = some dX) (hnot : ∀ k, dX ≠ .int k) (hj : P.info? el = some j)
    (hlen : (Builtin.lenOf X).run P w = .ok n w) (hroom : sLen + n ≤ sCap) (hf : (Builtin.firstCells j.size n X).run P w = .ok new w) (hst : (storeCells (a.add (sLen * j.size)) new.toList).run P w = .ok () w1) :
    (Builtin.append_ #[tS, tX] ty #[.slice (some a) sLen sCap, X]).run P w = .ok (.slice (some a) (sLen + n) sCap) w1 := by
  simp only [Builtin.append_, List.getElem?_toArray, List.getElem?_cons_zero, List.getElem?_cons_succ, Sem.run_bind, run_underlying hu, run_underlying huX, run_sizeOf' hj, Result.andThen_ok, Sem.run_pure, not_int hnot, Bool.false_eq_true, if_false, hlen, hroom, if_true, hf, hst, Bool.not_false]
/-- append of nothing to nil -/
theorem run_app_none {tS tX ty el : TypeId} {dX : TypeDesc} {j : TypeInfo} {X : Value} {new : Array Value} (hu : P.underlying tS = some (.slice el)) (huX : P.underlying tX = some dX) (hnot : ∀ k, dX ≠ .int k) (hj : P.info? el = some j)
    (hlen : (Builtin.lenOf X).run P w = .ok 0 w) (hf : (Builtin.firstCells j.size 0 X).run P w = .ok new w) :
    (Builtin.append_ #[tS, tX] ty #[.slice none 0 0, X]).run P w = .ok (.slice none 0 0) w := by
  simp only [Builtin.append_, List.getElem?_toArray, List.getElem?_cons_zero, List.getElem?_cons_succ, Sem.run_bind, run_underlying hu, run_underlying huX, run_sizeOf' hj, Result.andThen_ok, Sem.run_pure, not_int hnot, Bool.false_eq_true, if_false, hlen, Nat.add_zero, Nat.le_refl, if_true, hf, Bool.not_false]
/-- append that grows -/
theorem run_app_grow {tS tX ty el : TypeId} {dX : TypeDesc} {j : TypeInfo} {z : Value} {n sLen sCap : Nat} {base : Option Addr} {X : Value} {old new : Array Value} (hu : P.underlying tS = some (.slice el)) (huX : P.underlying tX = some dX) (hnot : ∀ k, dX ≠ .int k) (hj : P.info? el = some j) (hz : j.zero = some z)
    (hlen : (Builtin.lenOf X).run P w = .ok n w) (hg : sCap < sLen + n) (h63 : sLen + n ≤ 9223372036854775807) (hfit : Builtin.nextslicecap (sLen + n) sCap * j.bytes ≤ 281474976710656)
    (ho : (Builtin.firstCells j.size sLen (.slice base sLen sCap)).run P w.drew = .ok old w.drew) (hf : (Builtin.firstCells j.size n X).run P w.drew = .ok new w.drew) :
    (Builtin.append_ #[tS, tX] ty #[.slice base sLen sCap, X]).run P w = .ok (.slice (some ⟨w.drew.heap.size, 0, none⟩) (sLen + n) (grownCap w (sLen + n) sCap el)) (w.drew.alloc (.cells (old ++ new ++ Builtin.zeroCells z.cells (grownCap w (sLen + n) sCap el - (sLen + n))) el)) := by
  have hn : ¬ (sLen + n ≤ sCap) := by omega
  have h63' : ¬ (9223372036854775807 < ((sLen : Int) + (n : Int))) := by omega
  have h48' : ¬ (281474976710656 < Builtin.nextslicecap (sLen + n) sCap * j.bytes) := by omega
  have hn' : ¬ (((sLen + n : Nat) : Int) > IntKind.i64.max ∧ ((false = true) ∨ j.bytes = 0)) := fun h => by
    have h1 := h.1
    have e : IntKind.i64.max = 9223372036854775807 := by decide
    omega
  have hn'' : ¬ (((sLen + n : Nat) : Int) > IntKind.i64.max ∧ (False ∨ j.bytes = 0)) := fun h => by
    have h1 := h.1
    have e : IntKind.i64.max = 9223372036854775807 := by decide
    omega
  have h48'' : ¬ (Builtin.nextslicecap (sLen + n) sCap * j.bytes > 2 ^ 48) := by
    have : (2 : Nat) ^ 48 = 281474976710656 := by decide
    omega
  simp only [Builtin.append_, List.getElem?_toArray, List.getElem?_cons_zero, List.getElem?_cons_succ, Sem.run_bind, run_underlying hu, run_underlying huX, run_sizeOf' hj, run_typeInfo' hj, run_zeroValue' hj hz, Result.andThen_ok, Sem.run_pure, not_int hnot, Bool.false_eq_true, if_false, hlen, hn, hn', hn'', h48'', run_choose_drew, Question.forced, run_askRoom, ho, hf, newRow, run_newObj_alloc, Bool.not_false, if_true, grownCap]
def opAppend (P : Program) (ts : List TypeId) (s x : AV) (h : List Blk) : Option (AV × List Blk × List Nat) :=
  match ts with
  | [ts, tx] => match P.underlying ts, P.underlying tx with
    | some (.slice _), some (.int _) => none
    | some (.slice el), some _ => match P.info? el with
      | some j => match newEls j.size x h, j.zero with
        | some (n, new), some z => match cellsOf (lift z) with
          | some zl => if zl.length = j.size ∧ new.all AV.cell = true ∧ scL (lt h.length) new = true ∧ new.length = n * j.size ∧ j.size ≠ 0 then match s with
            | .v (.slice none 0 0) => if n = 0 then some (.v (.slice none 0 0), h, []) else
                if n ≤ 9223372036854775807 ∧ Builtin.nextslicecap n 0 * j.bytes ≤ 281474976710656 then some (.s h.length 0 n none, h ++ [.grow el j.size new], []) else none
            | .s k o n0 (some c) => match h[k]? with
              | some (.cells el' (lo, hi) l) => if n0 + n ≤ c ∧ o + n0 * j.size + new.length ≤ l.length ∧ (hi ≤ o + n0 * j.size ∨ o + n0 * j.size + new.length ≤ lo ∨ hi ≤ lo) then
                  some (.s k o (n0 + n) (some c), h.set k (.cells el' (lo, hi) (splice l (o + n0 * j.size) new)), [k]) else none
              | _ => none
            | .s k 0 n0 none => match h[k]? with
              | some (.grow el' sz l) => if el' = el ∧ sz = j.size ∧ l.length = n0 * j.size ∧ n0 + n ≤ 9223372036854775807 ∧ (2 * (n0 + n) + 1024) * j.bytes ≤ 281474976710656 then
                  some (.s h.length 0 (n0 + n) none, (h.set k .dead) ++ [.grow el sz (l ++ new)], [k]) else none
              | _ => none
            | _ => none else none
          | none => none
        | _, _ => none
      | none => none
    | _, _ => none
  | _ => none
/-- a row that is grown: its beginning is known -/
theorem does_grow {el : TypeId} {j : TypeInfo} {z : Value} {zl l : List AV} (hs : SR e B h w) (hz : cellsOf (lift z) = some zl) (hzl : zl.length = j.size) (hsc : scL (lt h.length) l = true) (need newCap : Nat) (hl : l.length = need * j.size) (hn : need ≤ newCap) :
    Does e B h w (.ok (.slice (some ⟨w.drew.heap.size, 0, none⟩) need newCap) (w.drew.alloc (.cells ((denL e l).toArray ++ Builtin.zeroCells z.cells (newCap - need)) el))) (.s h.length 0 need none) (h ++ [.grow el j.size l]) [] := by
  have hc := cellsOf_den (e := e) hz
  rw [lift_den] at hc
  refine ⟨e.ext h.length w.drew.heap.size newCap, w.drew.alloc (.cells ((denL e l).toArray ++ Builtin.zeroCells z.cells (newCap - need)) el), ?_, hs.drew.alloc _ newCap _ ?_ ?_, ?_⟩
  · simp only [AV.den, Env.ext_β, Env.ext_κ]
  · simp only [BR, Env.ext_β, Env.ext_κ]
    refine ⟨hs.drew.size, (Builtin.zeroCells z.cells (newCap - need)).toList, (0, 0), ?_, fun _ => ⟨rfl, ?_⟩⟩
    · rw [heap_new, ← denL_agr (Env.ext_agr e h.length w.drew.heap.size newCap) l hsc]
      congr 2
      apply Array.ext'
      simp
    · simp only [Builtin.zeroCells, Array.toList_map, List.length_map, Array.toList_range, List.length_range, hc, List.size_toArray, denL_length, hzl, hl]
      rw [← Nat.add_mul]; congr 1; omega
  · simp only [Blk.sc]; exact scL_mono (lt_mono (Nat.le_succ _)) l hsc
  · rw [List.length_append, List.length_singleton]
    have h1 : Po B e h.length [] w e h.length w.drew := Po.keep (Below.refl _ _).drew hs.size
    have h2 := Po.alloc (B := B) e h.length newCap w.drew (.cells ((denL e l).toArray ++ Builtin.zeroCells z.cells (newCap - need)) el) hs.drew.size
    have := h1.trans h2
    simpa using this
theorem sc_dead {h : List Blk} {k : Nat} (hs : ∀ (k : Nat) (b : Blk), h[k]? = some b → b.sc (lt h.length) = true) : ∀ (k' : Nat) (b : Blk), (h.set k .dead)[k']? = some b → b.sc (lt (h.set k .dead).length) = true := fun k' b hb => by
  rw [List.length_set]
  rcases set_get hb with ⟨_, rfl, _⟩ | ⟨_, h1⟩
  · rfl
  · exact hs k' b h1
theorem SR.dead (hs : SR e B h w) (k : Nat) : SR e B (h.set k .dead) w :=
  ⟨hs.size, fun k' b hb => by
    rcases set_get hb with ⟨_, rfl, _⟩ | ⟨_, h1⟩
    · trivial
    · exact hs.blk k' b h1, fun k1 k2 x y hx hy ho1 ho2 hne => by
    rcases set_get hx with ⟨_, rfl, _⟩ | ⟨_, h1⟩
    · cases ho1
    rcases set_get hy with ⟨_, rfl, _⟩ | ⟨_, h2⟩
    · cases ho2
    exact hs.inj k1 k2 x y h1 h2 ho1 ho2 hne, sc_dead hs.sc⟩
theorem Po.more {B : Nat} {e e' : Env} {n n' : Nat} {d d' : List Nat} {w w' : World} (h : Po B e n d w e' n' w') (hd : ∀ k ∈ d, k ∈ d') : Po B e n d' w e' n' w' :=
  ⟨h.agr, ⟨h.fr.os, h.fr.tape, h.fr.output, h.fr.size, fun b hb hne => h.fr.block b hb fun k hk hkd => hne k hk (hd k hkd)⟩, h.le, fun k h1 h2 => (h.new k h1 h2).imp id fun ⟨j, h3, h4, h5⟩ => ⟨j, h3, hd j h4, h5⟩, h.low⟩
theorem opAppend_ok {ts : List TypeId} {s x r : AV} {h' : List Blk} {d : List Nat} (ty : TypeId) (hs : SR e B h w) (hr : opAppend P ts s x h = some (r, h', d)) : Does e B h w ((Builtin.append_ ts.toArray ty #[s.den e, x.den e]).run P w) r h' d := by
  unfold opAppend at hr
  split at hr <;> try cases hr
  rename_i tS tX
  split at hr <;> try cases hr
  rename_i el dX hnot hu huX
  have hnot : ∀ k, dX ≠ .int k := fun k hk => hnot k (by rw [hk])
  split at hr <;> try cases hr
  rename_i j hj
  split at hr <;> try cases hr
  rename_i n new z hne hz
  split at hr <;> try cases hr
  rename_i zl hzl
  split at hr <;> try cases hr
  rename_i hh
  obtain ⟨hzlen, hcell, hnsc, hnlen, hj0⟩ := hh
  have hlen := (newEls_ok (P := P) hs hne).1
  have hfc := (newEls_ok (P := P) hs hne).2
  have hfw := hfc w (seen_all hs)
  have hfd := hfc w.drew (seen_all hs.drew)
  split at hr
  · -- nil
    split at hr
    · rename_i hn0
      subst hn0
      simp only [Option.some.injEq, Prod.mk.injEq] at hr
      obtain ⟨rfl, rfl, rfl⟩ := hr
      exact Does.quiet hs (run_app_none hu huX hnot hj hlen hfw)
    · rename_i hn0
      split at hr <;> try cases hr
      rename_i hb
      have hrun := run_app_grow (ty := ty) (sLen := 0) (sCap := 0) (base := none) (old := #[]) hu huX hnot hj hz hlen (by omega) (by omega) (by simpa using hb.2) rfl hfd
      simp only [Nat.zero_add, Array.empty_append] at hrun
      have := does_grow (el := el) (j := j) hs hzl hzlen hnsc n (grownCap w n 0 el) hnlen (grownCap_ge w n 0 el)
      rw [← hrun] at this
      exact this
  · -- a row with room
    rename_i k o n0 c
    split at hr <;> try cases hr
    rename_i el' lo hi l hk
    split at hr <;> try cases hr
    rename_i hb
    obtain ⟨b1, b2, b3⟩ := hb
    have hbk := hs.blk k _ hk
    simp only [BR] at hbk
    obtain ⟨w', r1, r2, r3, r4, r5, r6, r7⟩ := run_storeCells (P := P) (e.β k) el' lo hi (denL e new) (denL e l) (o + n0 * j.size) 0 w hbk.2 (by rw [denL_length, denL_length]; omega) (by rw [denL_length]; omega) fun v hv => by
      rw [denL_map] at hv
      obtain ⟨y, hy, rfl⟩ := List.mem_map.1 hv
      exact AV.cell_den e (List.all_eq_true.1 hcell y hy)
    have hrun := run_app_room (ty := ty) (a := ⟨e.β k, o, none⟩) hu huX hnot hj hlen b1 hfw (by rw [add_none]; exact r1)
    refine ⟨e, w', hrun, ?_, by rw [List.length_set]; exact Po.of ⟨r5, r6, r7, by omega, fun b hbl hne => r3 b fun h => hne k (List.getElem?_eq_some_iff.1 hk).1 (by simp) h.symm⟩ fun g hg => r3 g (by have := hbk.1; omega)⟩
    refine hs.upd hk rfl (by omega) (fun g hg _ => r3 g hg) ?_ ?_
    · simp only [BR]
      refine ⟨hbk.1, ?_⟩
      rw [r2, Nat.add_zero, denL_splice]
    · simp only [Blk.sc]
      exact scL_splice (by have := hs.sc k _ hk; simpa only [Blk.sc] using this) hnsc
  · -- a row of which the capacity is not known
    rename_i k n0
    split at hr <;> try cases hr
    rename_i el' sz l hk
    split at hr <;> try cases hr
    rename_i hb
    obtain ⟨hel, rfl, b3, b4, b5⟩ := hb
    have hel := hel.symm
    subst hel
    have hbk := hs.blk k _ hk
    simp only [BR] at hbk
    obtain ⟨hB, rest, fz, hblk, hcap⟩ := hbk
    obtain ⟨rfl, hcap⟩ := hcap hj0
    have hlsc : scL (lt h.length) l = true := by have := hs.sc k _ hk; simpa only [Blk.sc] using this
    have hklt := (List.getElem?_eq_some_iff.1 hk).1
    have hscA : scL (lt (h.length + 1)) (l ++ new) = true := by
      rw [scL_all, List.all_append, Bool.and_eq_true, ← scL_all, ← scL_all]
      exact ⟨scL_mono (lt_mono (Nat.le_succ _)) _ hlsc, scL_mono (lt_mono (Nat.le_succ _)) _ hnsc⟩
    by_cases hroom : n0 + n ≤ e.κ k
    · have hr0 : rest.length = (e.κ k - n0) * j.size := by
        rw [Nat.sub_mul]; omega
      have hge : new.length ≤ rest.length := by rw [hr0, hnlen]; exact Nat.mul_le_mul_right _ (by omega)
      obtain ⟨w', r1, r2, r3, r4, r5, r6, r7⟩ := run_storeCells (P := P) (e.β k) el 0 0 (denL e new) (denL e l ++ rest) (0 + n0 * j.size) 0 w hblk (by rw [List.length_append, denL_length, denL_length]; omega) (by omega) fun v hv => by
        rw [denL_map] at hv
        obtain ⟨y, hy, rfl⟩ := List.mem_map.1 hv
        exact AV.cell_den e (List.all_eq_true.1 hcell y hy)
      have hrun := run_app_room (ty := ty) (a := ⟨e.β k, 0, none⟩) hu huX hnot hj hlen hroom hfw (by rw [add_none]; exact r1)
      have hag := Env.ext_agr e h.length (e.β k) (e.κ k)
      refine ⟨e.ext h.length (e.β k) (e.κ k), w', ?_, ?_, ?_⟩
      · rw [show (AV.s k 0 n0 none).den e = .slice (some ⟨e.β k, 0, none⟩) n0 (e.κ k) from rfl, hrun]
        simp only [AV.den, Env.ext_β, Env.ext_κ]
      · have hd := hs.dead k
        have hdlt := (h.set k .dead).length
        have get : ∀ (k' : Nat) (b : Blk), (h.set k .dead ++ [.grow el j.size (l ++ new)])[k']? = some b → (k' < h.length ∧ k' ≠ k ∧ h[k']? = some b) ∨ (k' < h.length ∧ b = .dead) ∨ (k' = h.length ∧ b = .grow el j.size (l ++ new)) := fun k' b hb => by
          rcases Nat.lt_or_ge k' h.length with hk' | hk'
          · rw [List.getElem?_append_left (by simpa using hk')] at hb
            rcases set_get hb with ⟨_, rfl, _⟩ | ⟨g1, g2⟩
            · exact .inr (.inl ⟨hk', rfl⟩)
            · exact .inl ⟨hk', g1, g2⟩
          · rw [List.getElem?_append_right (by simpa using hk'), List.length_set] at hb
            have : k' = h.length := by
              have := (List.getElem?_eq_some_iff.1 hb).1
              simp at this; omega
            subst this
            simp at hb; exact .inr (.inr ⟨rfl, hb.symm⟩)
        refine ⟨by have := hs.size; omega, fun k' b hb => ?_, fun k1 k2 x y hx hy ho1 ho2 hne => ?_, fun k' b hb => ?_⟩
        · rcases get k' b hb with ⟨g1, g2, g3⟩ | ⟨_, rfl⟩ | ⟨rfl, rfl⟩
          · refine ((hs.blk k' b g3).agr hag (lt_iff.2 g1) (hs.sc k' b g3)).same (fun g hg => r3 g (by omega)) fun ho => r3 _ ?_
            rw [← (hag k' (lt_iff.2 g1)).1]
            exact hs.inj k' k b _ g3 hk ho rfl g2
          · trivial
          · simp only [BR, Env.ext_β, Env.ext_κ]
            refine ⟨hB, rest.drop new.length, (0, 0), ?_, fun _ => ⟨rfl, ?_⟩⟩
            · rw [r2, ← denL_agr (m := lt h.length) hag (l ++ new) (by rw [scL_all, List.all_append, Bool.and_eq_true, ← scL_all, ← scL_all]; exact ⟨hlsc, hnsc⟩), grow_den]
              congr 2
              simp only [splice, Nat.add_zero, Nat.zero_add]
              have e1 : (denL e l).length = n0 * j.size := by rw [denL_length, b3]
              rw [List.take_append_of_le_length (by omega), List.take_of_length_le (by omega), List.drop_append, List.drop_eq_nil_of_le (by omega), List.nil_append]
              rw [denL_length, e1, show n0 * j.size + new.length - n0 * j.size = new.length by omega, List.append_assoc]
            · rw [List.length_append, List.length_drop]; omega
        · rcases get k1 x hx with ⟨g1, g2, g3⟩ | ⟨_, rfl⟩ | ⟨rfl, rfl⟩
          · rcases get k2 y hy with ⟨f1, f2, f3⟩ | ⟨_, rfl⟩ | ⟨rfl, rfl⟩
            · rw [← (hag k1 (lt_iff.2 g1)).1, ← (hag k2 (lt_iff.2 f1)).1]
              exact hs.inj k1 k2 x y g3 f3 ho1 ho2 hne
            · cases ho2
            · rw [← (hag k1 (lt_iff.2 g1)).1, Env.ext_β]
              exact hs.inj k1 k x _ g3 hk ho1 rfl g2
          · cases ho1
          · rcases get k2 y hy with ⟨f1, f2, f3⟩ | ⟨_, rfl⟩ | ⟨rfl, rfl⟩
            · rw [← (hag k2 (lt_iff.2 f1)).1, Env.ext_β]
              exact fun heq => hs.inj k2 k y _ f3 hk ho2 rfl f2 heq.symm
            · cases ho2
            · exact absurd rfl hne
        · rw [List.length_append, List.length_set, List.length_singleton]
          rcases get k' b hb with ⟨g1, g2, g3⟩ | ⟨_, rfl⟩ | ⟨rfl, rfl⟩
          · exact b.sc_mono (lt_mono (Nat.le_succ _)) (hs.sc k' b g3)
          · rfl
          · exact hscA
      · rw [List.length_append, List.length_set, List.length_singleton]
        refine ⟨hag, ⟨r5, r6, r7, by omega, fun b _ hne => r3 b fun h => hne k hklt (by simp) h.symm⟩, Nat.le_succ _, fun k' h1 h2 => ?_, fun g hg => r3 g (by omega)⟩
        obtain rfl : k' = h.length := by omega
        exact .inr ⟨k, hklt, by simp, by rw [Env.ext_β]⟩
    · have hold : (Builtin.firstCells j.size n0 (.slice (some ⟨e.β k, 0, none⟩) n0 (e.κ k))).run P w.drew = .ok (denL e l).toArray w.drew := by
        have := run_loadCells (P := P) (e.β k) 0 w.drew (denL e l) fun i v hv => by
          rw [Nat.zero_add]; exact seen_cell hs.drew hk rfl i v hv
        rw [denL_length, b3] at this
        exact this
      have hrun := run_app_grow (ty := ty) (base := some ⟨e.β k, 0, none⟩) hu huX hnot hj hz hlen (by omega) (by omega) (Nat.le_trans (Nat.mul_le_mul_right _ (nextcap_le (by omega))) b5) hold hfd
      have hg := does_grow (el := el) (j := j) (l := l ++ new) (hs.dead k) hzl hzlen (by rw [List.length_set, scL_all, List.all_append, Bool.and_eq_true, ← scL_all, ← scL_all]; exact ⟨hlsc, hnsc⟩) (n0 + n) (grownCap w (n0 + n) (e.κ k) el) (by rw [List.length_append, b3, hnlen, Nat.add_mul]) (grownCap_ge w _ _ el)
      rw [grow_den, ← List.append_toArray, ← hrun, List.length_set] at hg
      obtain ⟨e', w', g1, g2, g3⟩ := hg
      rw [List.length_set] at g3
      exact ⟨e', w', g1, g2, g3.more fun _ h => (by cases h)⟩
  · cases hr

/-! conversions of texts and pointers -/
/-- cells that are bytes -/
def bytesA : List AV → Option (List UInt8)
  | [] => some []
  | .n .u8 i :: l => if 0 ≤ i ∧ i ≤ 255 then match bytesA l with
    | some bs => some (UInt8.ofNat i.toNat :: bs)
    | none => none else none
  | _ => none
theorem bytesA_den {e : Env} : ∀ {l : List AV} {bs : List UInt8}, bytesA l = some bs → denL e l = Lib.byteCells bs
  | [], bs, hb => by obtain rfl := Option.some.inj hb; rfl
  | x :: l, bs, hb => by
    unfold bytesA at hb
    split at hb
    · rename_i heq; cases heq
    · rename_i i l' heq
      obtain ⟨rfl, rfl⟩ := List.cons.inj heq
      split at hb <;> try cases hb
      rename_i hi
      split at hb <;> try cases hb
      rename_i bs' hl
      obtain ⟨n, rfl⟩ : ∃ n : Nat, i = (n : Int) := ⟨i.toNat, by omega⟩
      have hn : n < 256 := by omega
      have : (UInt8.ofNat (Int.toNat (n : Int))).toNat = n := by simp [Nat.mod_eq_of_lt hn]
      simp only [denL, AV.den, Lib.byteCells, List.map_cons, this]
      rw [bytesA_den hl]; rfl
    · cases hb
def opConvH (P : Program) (src dst : TypeId) (x : AV) (h : List Blk) : Option (AV × List Blk) :=
  match P.underlying src, P.underlying dst, x with
  | some _, some (.slice e), .v (.string s) => match P.underlying e with
    | some (.int .u8) => some (.s h.length 0 s.size none, h ++ [.grow e 0 (s.data.toList.map fun b => .n .u8 b.toNat)])
    | _ => none
  | some (.slice e), some .string, .s k o n _ => match P.underlying e, h[k]? with
    | some (.int .u8), some b => match b.seen with
      | some l => if o + n ≤ l.length then match bytesA ((l.drop o).take n) with
        | some bs => some (.v (.string ⟨bs.toArray⟩), h)
        | none => none else none
      | none => none
    | _, _ => none
  | some (.pointer t), some .unsafePointer, .p k o => match P.info? t, h[k]? with
    | some j, some (.cells _ _ l) => if j.size ≠ 0 ∧ o < l.length then some (.p k o, h) else none
    | _, _ => none
  | some .unsafePointer, some (.pointer u), .p k o => match P.info? u, h[k]? with
    | some _, some (.cells el _ l) => if liesAt P P.depth el (l.length / P.cellsOf el) o u 1 = true then some (.p k o, h) else none
    | _, _ => none
  | _, _, _ => none
theorem run_toBytes (b : Nat) (o : Nat) (bs : List UInt8) (n : Nat) (hn : n = bs.length) (c : Nat) (hc : ∀ j v, (Lib.byteCells bs)[j]? = some v → w.cell? ⟨b, o + j, none⟩ = some v) : (Conv.bytesToString (.slice (some ⟨b, o, none⟩) n c)).run P w = .ok (.string ⟨bs.toArray⟩) w := by
  have hl := run_loadCells (P := P) b o w (Lib.byteCells bs) hc
  rw [Lib.byteCells_length, ← hn] at hl
  have key : ∀ (l : List UInt8) (acc : ByteArray), (forIn (m := Sem) (Lib.byteCells l) acc (fun c s => (match c with | .int .u8 n => pure (ForInStep.yield (s.push (UInt8.ofNat n.toNat))) | _ => do stuck (α := PUnit) "bytesToString: byte expected"; pure (ForInStep.yield s) : Sem (ForInStep ByteArray)))).run P w = .ok ⟨acc.data ++ l.toArray⟩ w := by
    intro l
    induction l with
    | nil => intro acc; simp [Lib.byteCells]
    | cons x l ih =>
      intro acc
      have h1 : UInt8.ofNat ((x.toNat : Int).toNat) = x := by simp
      simp only [Lib.byteCells, List.map_cons, List.forIn_cons, Sem.run_bind, Sem.run_pure, Result.andThen_ok, h1]
      have := ih (acc.push x)
      simp only [Lib.byteCells] at this
      rw [this]
      congr 1
      apply ByteArray.ext
      simp [ByteArray.push]
  have := key bs .empty
  simp only [Conv.bytesToString, Sem.run_bind, hl, Result.andThen_ok, List.forIn_toArray]
  refine (congrArg (fun r : Result ByteArray => r.andThen fun a w' => Sem.run P (pure (Value.string a)) w') this).trans ?_
  simp [ByteArray.empty, ByteArray.emptyWithCapacity]
  rfl
theorem opConvH_ok {src dst : TypeId} {x r : AV} {h' : List Blk} (hs : SR e B h w) (hr : opConvH P src dst x h = some (r, h')) : Does e B h w ((convert src dst (x.den e)).run P w) r h' [] := by
  unfold opConvH at hr
  split at hr
  · rename_i u el s hsrc hdst
    split at hr <;> try cases hr
    rename_i hel
    have hrun := Lib.run_convert_string_bytes (P := P) w src dst el s hsrc hdst hel
    have hag := Env.ext_agr e h.length w.heap.size (grownCap w s.size 0 el)
    refine ⟨e.ext h.length w.heap.size (grownCap w s.size 0 el), Lib.bytesWorld w el s, ?_, hs.new _ _ (by rw [Lib.bytesWorld_size]; omega) (fun k hk => Lib.bytesWorld_at_old w el s k hk) ?_ ?_, ?_⟩
    · simp only [AV.den, Env.ext_β, Env.ext_κ]; exact hrun
    · simp only [BR, Env.ext_β]
      refine ⟨hs.size, List.replicate (grownCap w s.size 0 el - s.size) (.int .u8 0), ((Lib.bytesCells w el s).size, (Lib.bytesCells w el s).size + 1), ?_, fun h0 => absurd rfl h0⟩
      rw [Lib.bytesWorld_at_new]
      congr 2
      unfold Lib.bytesCells
      apply Array.ext'
      simp [denL_map, AV.den]
    · simp only [Blk.sc]
      rw [scL_all]
      refine List.all_eq_true.2 fun y hy => ?_
      obtain ⟨b, _, rfl⟩ := List.mem_map.1 hy
      rfl
    · rw [List.length_append, List.length_singleton]
      refine ⟨hag, ⟨rfl, rfl, rfl, by rw [Lib.bytesWorld_size]; omega, fun b hb _ => Lib.bytesWorld_at_old w el s b hb⟩, Nat.le_succ _, fun k' h1 h2 => ?_, fun g hg => Lib.bytesWorld_at_old w el s g (by have := hs.size; omega)⟩
      obtain rfl : k' = h.length := by omega
      exact .inl (by rw [Env.ext_β]; exact Nat.le_refl _)
  · rename_i el k o n c hsrc hdst
    split at hr <;> try cases hr
    rename_i b hel hb
    split at hr <;> try cases hr
    rename_i l hl
    split at hr <;> try cases hr
    rename_i hle
    split at hr <;> try cases hr
    rename_i bs hbs
    refine Does.quiet hs ?_
    have hd := bytesA_den (e := e) hbs
    have hlen : n = bs.length := by
      have := congrArg List.length hd
      rw [denL_length, Lib.byteCells_length, List.length_take, List.length_drop] at this
      omega
    have := run_toBytes (P := P) (w := w) (e.β k) o bs n hlen (match c with | some c => c | none => e.κ k) fun j v hj => seen_cell hs hb hl (o + j) v (by
      rw [← hd, denL_drop_take, List.getElem?_take] at hj
      split at hj
      · rwa [List.getElem?_drop] at hj
      · cases hj)
    simp only [AV.den, convert, Sem.run_bind, run_underlying hsrc, run_underlying hdst, Result.andThen_ok, run_underlying hel]
    exact this
  · rename_i t k o hsrc hdst
    split at hr <;> try cases hr
    rename_i j el fz l hj hk
    split at hr <;> try cases hr
    rename_i hh
    have hbk := hs.blk k _ hk
    simp only [BR] at hbk
    refine Does.quiet hs (Lib.run_to_unsafe (P := P) w (cells := l.length) (e := el) ⟨e.β k, o, none⟩ hsrc hdst hj hh.1 ?_ hh.2)
    simp [World.shape?, hbk.2, denL_length]
  · rename_i u k o hsrc hdst
    split at hr <;> try cases hr
    rename_i j el fz l hj hk
    split at hr <;> try cases hr
    rename_i hh
    have hbk := hs.blk k _ hk
    simp only [BR] at hbk
    refine Does.quiet hs (Lib.run_from_unsafe (P := P) w (cells := l.length) (e := el) ⟨e.β k, o, none⟩ hsrc hdst hj ?_ hh)
    simp [World.shape?, hbk.2, denL_length]
  · cases hr

/-! texts that share a row -/
def opSliceData (x : AV) (h : List Blk) : Option AV :=
  match x with
  | .s k o n none => match h[k]? with
    | some (.grow _ sz (_ :: _)) => if sz ≠ 0 then some (.p k o) else none
    | _ => none
  | .s k o n (some c) => if c ≠ 0 then some (.p k o) else none
  | _ => none
theorem opSliceData_ok {x r : AV} (ts : Array TypeId) (ty : TypeId) (hs : SR e B h w) (hr : opSliceData x h = some r) : (Builtin.unsafeSliceData_ ts ty #[x.den e]).run P w = .ok (r.den e) w := by
  unfold opSliceData at hr
  split at hr
  · rename_i k o n
    split at hr <;> try cases hr
    rename_i el sz y l hk
    split at hr <;> try cases hr
    rename_i hsz
    have hbk := hs.blk k _ hk
    simp only [BR] at hbk
    obtain ⟨_, rest, fz, _, hc⟩ := hbk
    have hc := (hc hsz).2
    exact Lib.run_unsafeSliceData_row (P := P) w ts ty ⟨e.β k, o, none⟩ n (e.κ k) fun h0 => by
      rw [h0, Nat.zero_mul, List.length_cons] at hc; omega
  · rename_i k o n c
    split at hr <;> try cases hr
    rename_i hc
    exact Lib.run_unsafeSliceData_row (P := P) w ts ty ⟨e.β k, o, none⟩ n c hc
  · cases hr
def opUnsafeString (P : Program) (ts : List TypeId) (x y : AV) (h : List Blk) : Option (AV × List Blk × List Nat) :=
  match ts, x, y with
  | [pt, _], .p k 0, .n .i64 n => match P.underlying pt, h[k]? with
    | some (.pointer el), some (.grow el' _ l) => if el' = el ∧ P.cellsOf el = 1 ∧ 0 < n ∧ n ≤ l.length ∧ n ≤ 9223372036854775807 then match bytesA (l.take n.toNat) with
      | some bs => some (.v (.string ⟨bs.toArray⟩), h.set k (.grow el 0 l), [k])
      | none => none else none
    | _, _ => none
  | _, _, _ => none
theorem opUnsafeString_ok {ts : List TypeId} {x y r : AV} {h' : List Blk} {d : List Nat} (ty : TypeId) (hs : SR e B h w) (hr : opUnsafeString P ts x y h = some (r, h', d)) : Does e B h w ((Builtin.unsafeString_ ts.toArray ty #[x.den e, y.den e]).run P w) r h' d := by
  unfold opUnsafeString at hr
  split at hr <;> try cases hr
  rename_i pt it k n
  split at hr <;> try cases hr
  rename_i el el' sz l hpt hk
  split at hr <;> try cases hr
  rename_i hh
  obtain ⟨rfl, hc1, hn0, hnl, hn63⟩ := hh
  split at hr <;> try cases hr
  rename_i bs hbs
  have hd := bytesA_den (e := e) hbs
  obtain ⟨m, rfl⟩ : ∃ m : Nat, n = (m : Int) := ⟨n.toNat, by omega⟩
  rw [Int.toNat_natCast] at hd hbs
  have hlen : bs.length = m := by
    have := congrArg List.length hd
    rw [denL_length, Lib.byteCells_length, List.length_take] at this
    omega
  have hbk := hs.blk k _ hk
  simp only [BR] at hbk
  obtain ⟨hB, rest, fz, hblk, _⟩ := hbk
  have hrun := Lib.run_unsafeString_row (P := P) w pt it ty el' hpt hc1 (e.β k) (l.length + rest.length) (by simp [World.shape?, hblk, denL_length]) bs (by intro h0; rw [h0] at hlen; simp at hlen; omega) (by omega) (by omega) fun j x hj => by
    rw [add_none, Nat.zero_add]
    refine seen_cell hs hk rfl j _ ?_
    have h1 : (Lib.byteCells bs)[j]? = some (.int .u8 x.toNat) := by simp [Lib.byteCells, hj]
    rw [← hd, denL_map, List.getElem?_map, List.getElem?_take] at h1
    rw [denL_get]
    split at h1
    · exact h1
    · simp at h1
  rw [hlen] at hrun
  have hfr : ∃ fz', (w.freeze ⟨e.β k, 0, none⟩ m).heap[e.β k]? = some (.cells (denL e l ++ rest).toArray el' fz') := by
    unfold World.freeze
    split
    · exact ⟨fz, hblk⟩
    · exact ⟨_, by simp only [Array.getElem?_modify, if_true, hblk, Option.map_some]; rfl⟩
  obtain ⟨fz', hfr⟩ := hfr
  have hoth : ∀ g, g ≠ e.β k → (w.freeze ⟨e.β k, 0, none⟩ m).heap[g]? = w.heap[g]? := fun g hg => by
    unfold World.freeze
    split
    · rfl
    · simp only [Array.getElem?_modify]
      rw [if_neg (fun h => hg h.symm)]
  have hsz : (w.freeze ⟨e.β k, 0, none⟩ m).heap.size = w.heap.size := by
    unfold World.freeze
    split <;> simp
  have hot : (w.freeze ⟨e.β k, 0, none⟩ m).os = w.os ∧ (w.freeze ⟨e.β k, 0, none⟩ m).tape = w.tape ∧ (w.freeze ⟨e.β k, 0, none⟩ m).output = w.output := by
    unfold World.freeze
    split <;> exact ⟨rfl, rfl, rfl⟩
  refine ⟨e, _, hrun, ?_, by rw [List.length_set]; exact Po.of ⟨hot.1, hot.2.1, hot.2.2, by omega, fun b hbl hne => hoth b fun h => hne k (List.getElem?_eq_some_iff.1 hk).1 (by simp) h.symm⟩ fun g hg => hoth g (by omega)⟩
  refine hs.upd hk rfl (by omega) (fun g hg _ => hoth g hg) ?_ ?_
  · simp only [BR]
    exact ⟨hB, rest, fz', hfr, fun h0 => absurd rfl h0⟩
  · simp only [Blk.sc]
    have := hs.sc k _ hk
    simpa only [Blk.sc] using this
end
end Go.Proofs.YtpfoifflfgiaoaaGreatDoor
