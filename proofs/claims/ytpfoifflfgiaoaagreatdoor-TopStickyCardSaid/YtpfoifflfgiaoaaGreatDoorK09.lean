/- An evaluator of functions over partly known values: values, places. -/
import Derived.WalkKit
import Derived.Below
import Derived.LaidEqlPtr
import Derived.Laws.StructEq
import Derived.ChangeKeysEq
import Derived.Laws.Closers25b
set_option linter.unusedVariables false
set_option linter.unusedSimpArgs false
namespace Go.Proofs.YtpfoifflfgiaoaaGreatDoor
open Go Go.RowKit

/-- abstract values: literal numbers and truth values are told apart from unknown ones ('x', of its kind's range; 'v'); addresses are numbers of abstract blocks -/
inductive AV where
  | v (x : Value)
  | n (k : IntKind) (i : Int)
  | x (k : IntKind) (i : { i : Int // k.min ≤ i ∧ i ≤ k.max })
  | b (x : Bool)
  | p (k o : Nat)
  | s (k o n : Nat) (c : Option Nat)
  | a (l : List AV)
  | t (l : List AV)
  | f (fn : Fn) (first cap : List AV)
  | m (k : Nat)
  | i (ty : TypeId) (x : AV)
instance : Inhabited AV := ⟨.v default⟩
structure Env where
  β : Nat → Nat
  κ : Nat → Nat
mutual
def AV.den (e : Env) : AV → Value
  | .v x => x
  | .n k i => .int k i
  | .x k i => .int k i.1
  | .b x => .bool x
  | .p k o => .pointer (some ⟨e.β k, o, none⟩)
  | .s k o n c => .slice (some ⟨e.β k, o, none⟩) n (match c with | some c => c | none => e.κ k)
  | .a l => .agg (denL e l).toArray
  | .t l => .tuple (denL e l).toArray
  | .f fn x y => .func fn (denL e x).toArray (denL e y).toArray
  | .m k => .map (some (e.β k))
  | .i ty x => .iface ty (x.den e)
def denL (e : Env) : List AV → List Value
  | [] => []
  | x :: l => x.den e :: denL e l
end
mutual
def AV.sc (m : Nat → Bool) : AV → Bool
  | .v _ | .n _ _ | .x _ _ | .b _ => true
  | .p k _ => m k
  | .s k _ _ _ => m k
  | .a l => scL m l
  | .t l => scL m l
  | .f _ x y => scL m x && scL m y
  | .m k => m k
  | .i _ x => x.sc m
def scL (m : Nat → Bool) : List AV → Bool
  | [] => true
  | x :: l => x.sc m && scL m l
end
/-- one cell's value -/
def AV.cell : AV → Bool
  | .a _ | .t _ => false
  | .v (.agg _) | .v (.tuple _) => false
  | _ => true
theorem denL_map (e : Env) : ∀ l : List AV, denL e l = l.map (·.den e)
  | [] => rfl
  | x :: l => by rw [denL, denL_map e l]; rfl
theorem scL_all (m : Nat → Bool) : ∀ l : List AV, scL m l = l.all (·.sc m)
  | [] => rfl
  | x :: l => by rw [scL, scL_all m l]; rfl
/-- two environments agree on the numbers of m -/
def Agr (m : Nat → Bool) (e e' : Env) : Prop := ∀ k, m k = true → e.β k = e'.β k ∧ e.κ k = e'.κ k
theorem Agr.refl (m : Nat → Bool) (e : Env) : Agr m e e := fun _ _ => ⟨rfl, rfl⟩
theorem Agr.trans {m : Nat → Bool} {e e' e'' : Env} (h : Agr m e e') (h' : Agr m e' e'') : Agr m e e'' := fun k hk => ⟨(h k hk).1.trans (h' k hk).1, (h k hk).2.trans (h' k hk).2⟩
theorem Agr.mono {m m' : Nat → Bool} {e e' : Env} (h : Agr m e e') (hm : ∀ k, m' k = true → m k = true) : Agr m' e e' := fun k hk => h k (hm k hk)
theorem Agr.symm {m : Nat → Bool} {e e' : Env} (h : Agr m e e') : Agr m e' e := fun k hk => ⟨(h k hk).1.symm, (h k hk).2.symm⟩
mutual
theorem AV.den_agr {m : Nat → Bool} {e e' : Env} (h : Agr m e e') : ∀ x : AV, x.sc m = true → x.den e = x.den e'
  | .v _, _ | .n _ _, _ | .x _ _, _ | .b _, _ => rfl
  | .p k o, hk => by simp only [AV.den]; rw [(h k hk).1]
  | .s k o n c, hk => by simp only [AV.den]; rw [(h k hk).1, (h k hk).2]
  | .a l, hl => by simp only [AV.den]; rw [denL_agr h l hl]
  | .t l, hl => by simp only [AV.den]; rw [denL_agr h l hl]
  | .f _ x y, hl => by
    simp only [AV.sc, Bool.and_eq_true] at hl
    simp only [AV.den]; rw [denL_agr h x hl.1, denL_agr h y hl.2]
  | .m k, hk => by simp only [AV.den]; rw [(h k hk).1]
  | .i _ x, hx => by simp only [AV.den]; rw [AV.den_agr h x hx]
theorem denL_agr {m : Nat → Bool} {e e' : Env} (h : Agr m e e') : ∀ l : List AV, scL m l = true → denL e l = denL e' l
  | [], _ => rfl
  | x :: l, hl => by
    simp only [scL, Bool.and_eq_true] at hl
    rw [denL, denL, AV.den_agr h x hl.1, denL_agr h l hl.2]
end
mutual
theorem AV.sc_mono {m m' : Nat → Bool} (h : ∀ k, m k = true → m' k = true) : ∀ x : AV, x.sc m = true → x.sc m' = true
  | .v _, _ | .n _ _, _ | .x _ _, _ | .b _, _ => rfl
  | .p k o, hk => h k hk
  | .s k o n c, hk => h k hk
  | .a l, hl => scL_mono h l hl
  | .t l, hl => scL_mono h l hl
  | .f _ x y, hl => by
    simp only [AV.sc, Bool.and_eq_true] at hl ⊢
    exact ⟨scL_mono h x hl.1, scL_mono h y hl.2⟩
  | .m k, hk => h k hk
  | .i _ x, hx => AV.sc_mono (m := m) h x hx
theorem scL_mono {m m' : Nat → Bool} (h : ∀ k, m k = true → m' k = true) : ∀ l : List AV, scL m l = true → scL m' l = true
  | [], _ => rfl
  | x :: l, hl => by
    simp only [scL, Bool.and_eq_true] at hl ⊢
    exact ⟨AV.sc_mono h x hl.1, scL_mono h l hl.2⟩
end
theorem AV.cell_den {x : AV} (e : Env) (h : x.cell = true) : (x.den e).oneCell' = true := by
  unfold AV.cell at h
  split at h
  · cases h
  · cases h
  · cases h
  · cases h
  · cases x <;> simp_all [AV.den, Value.oneCell']

/-- abstract blocks: none (nothing is said) · cells of a package-level variable, only read · an own row of cells · an own row of which a beginning is known, of capacity κ (sz 0: only read) · a map · an iterator over a string -/
inductive Blk where
  | dead
  | ro (g : Nat) (l : List AV)
  | cells (el : TypeId) (fz : Nat × Nat) (l : List AV)
  | grow (el : TypeId) (sz : Nat) (l : List AV)
  | map (es : List (AV × AV × Nat)) (c : Nat)
  | iter (s : ByteArray) (pos : Nat)
instance : Inhabited Blk := ⟨.dead⟩
def Blk.own : Blk → Bool
  | .dead | .ro _ _ => false
  | _ => true
def Blk.sc (m : Nat → Bool) : Blk → Bool
  | .dead | .iter _ _ => true
  | .ro _ l | .cells _ _ l | .grow _ _ l => scL m l
  | .map es _ => es.all fun x => x.1.sc m && x.2.1.sc m
def denE (e : Env) (es : List (AV × AV × Nat)) : Array MapEntry := (es.map fun x => { key := x.1.den e, val := x.2.1.den e, born := x.2.2 : MapEntry }).toArray
/-- what a block says of the world w; B: how many blocks there were when the call began -/
def BR (e : Env) (B : Nat) (k : Nat) : Blk → World → Prop
  | .dead, _ => True
  | .ro g l, w => e.β k = g ∧ g < B ∧ ∀ (i : Nat) v, (denL e l)[i]? = some v → w.cell? ⟨g, i, none⟩ = some v
  | .cells el fz l, w => B ≤ e.β k ∧ w.heap[e.β k]? = some (.cells (denL e l).toArray el fz)
  | .grow el sz l, w => B ≤ e.β k ∧ ∃ rest fz, w.heap[e.β k]? = some (.cells (denL e l ++ rest).toArray el fz) ∧ (sz ≠ 0 → fz = (0, 0) ∧ l.length + rest.length = e.κ k * sz)
  | .map es c, w => B ≤ e.β k ∧ w.heap[e.β k]? = some (.map (denE e es) c)
  | .iter s pos, w => B ≤ e.β k ∧ w.heap[e.β k]? = some (.stringIter s pos)
theorem denE_agr {m : Nat → Bool} {e e' : Env} (h : Agr m e e') (es : List (AV × AV × Nat)) (hs : (es.all fun x => x.1.sc m && x.2.1.sc m) = true) : denE e es = denE e' es := by
  unfold denE
  congr 1
  apply List.map_congr_left
  intro x hx
  have := List.all_eq_true.1 hs x hx
  simp only [Bool.and_eq_true] at this
  rw [AV.den_agr h _ this.1, AV.den_agr h _ this.2]
theorem BR.agr {m : Nat → Bool} {e e' : Env} {B k : Nat} {b : Blk} {w : World} (h : Agr m e e') (hk : m k = true) (hs : b.sc m = true) (hb : BR e B k b w) : BR e' B k b w := by
  cases b <;> simp only [BR, Blk.sc] at *
  · rw [← (h k hk).1, ← denL_agr h _ hs]; exact hb
  · rw [← (h k hk).1, ← denL_agr h _ hs]; exact hb
  · rw [← (h k hk).1, ← (h k hk).2, ← denL_agr h _ hs]; exact hb
  · rw [← (h k hk).1, ← denE_agr h _ hs]; exact hb
  · rw [← (h k hk).1]; exact hb
/-- a block stands where it is not turned -/
theorem BR.same {e : Env} {B k : Nat} {b : Blk} {w w' : World} (hb : BR e B k b w) (hl : ∀ g, g < B → w'.heap[g]? = w.heap[g]?) (h : b.own = true → w'.heap[e.β k]? = w.heap[e.β k]?) : BR e B k b w' := by
  cases b <;> simp only [BR] at *
  · exact ⟨hb.1, hb.2.1, fun i v hv => by rw [World.cell?_of_block (w := w) (hl _ hb.2.1)]; exact hb.2.2 i v hv⟩
  all_goals rw [h rfl]; exact hb
theorem BR.lt {e : Env} {B k : Nat} {b : Blk} {w : World} (hb : BR e B k b w) (ho : b.own = true) : B ≤ e.β k ∧ e.β k < w.heap.size := by
  cases b <;> simp only [BR] at hb
  · cases ho
  · cases ho
  · exact ⟨hb.1, (Array.getElem?_eq_some_iff.1 hb.2).1⟩
  · obtain ⟨h1, r, fz, h2, _⟩ := hb; exact ⟨h1, (Array.getElem?_eq_some_iff.1 h2).1⟩
  · exact ⟨hb.1, (Array.getElem?_eq_some_iff.1 hb.2).1⟩
  · exact ⟨hb.1, (Array.getElem?_eq_some_iff.1 hb.2).1⟩

def lt (n k : Nat) : Bool := decide (k < n)
theorem lt_iff {n k : Nat} : lt n k = true ↔ k < n := by unfold lt; exact decide_eq_true_iff
/-- what an abstract heap says of a world -/
structure SR (e : Env) (B : Nat) (h : List Blk) (w : World) : Prop where
  size : B ≤ w.heap.size
  blk : ∀ k b, h[k]? = some b → BR e B k b w
  inj : ∀ k k' b b', h[k]? = some b → h[k']? = some b' → b.own = true → b'.own = true → k ≠ k' → e.β k ≠ e.β k'
  sc : ∀ (k : Nat) (b : Blk), h[k]? = some b → b.sc (lt h.length) = true
/-- nothing was turned but the abstract blocks d (numbers ahead of n) and what is new -/
structure Fr (e : Env) (n : Nat) (d : List Nat) (w w' : World) : Prop where
  os : w'.os = w.os
  tape : w'.tape = w.tape
  output : w'.output = w.output
  size : w.heap.size ≤ w'.heap.size
  block : ∀ b, b < w.heap.size → (∀ k, k < n → k ∈ d → e.β k ≠ b) → w'.heap[b]? = w.heap[b]?
theorem Fr.refl (e : Env) (n : Nat) (w : World) : Fr e n [] w w := ⟨rfl, rfl, rfl, Nat.le_refl _, fun _ _ _ => rfl⟩
theorem Fr.drew {e : Env} {n : Nat} {d : List Nat} {w w' : World} (h : Fr e n d w w') : Fr e n d w w'.drew := ⟨h.os, h.tape, h.output, h.size, h.block⟩
/-- all own blocks of h lie from B on: old memory is kept -/
theorem Fr.below {e : Env} {B : Nat} {h : List Blk} {d : List Nat} {w w' : World} (hf : Fr e h.length d w w') (hs : SR e B h w) (hd : ∀ k ∈ d, k < h.length → ∃ b, h[k]? = some b ∧ b.own = true) : Below B w w' :=
  ⟨hf.os, hf.tape, hf.output, hf.size, fun b hb => hf.block b (Nat.lt_of_lt_of_le hb hs.size) fun k hk hkd heq => by
    obtain ⟨x, hx, ho⟩ := hd k hkd hk
    have := ((hs.blk k x hx).lt ho).1
    omega⟩
end Go.Proofs.YtpfoifflfgiaoaaGreatDoor
namespace Go.Proofs.YtpfoifflfgiaoaaGreatDoor
open Go Go.RowKit

def Env.ext (e : Env) (n b c : Nat) : Env := ⟨fun k => if k = n then b else e.β k, fun k => if k = n then c else e.κ k⟩
theorem Env.ext_agr (e : Env) (n b c : Nat) : Agr (lt n) e (e.ext n b c) := fun k hk => by
  have : k ≠ n := by have := lt_iff.1 hk; omega
  simp [Env.ext, this]
theorem Env.ext_β (e : Env) (n b c : Nat) : (e.ext n b c).β n = b := by simp [Env.ext]
theorem Env.ext_κ (e : Env) (n b c : Nat) : (e.ext n b c).κ n = c := by simp [Env.ext]
theorem lt_mono {n m : Nat} (h : n ≤ m) : ∀ k, lt n k = true → lt m k = true := fun k hk => lt_iff.2 (by have := lt_iff.1 hk; omega)
theorem Blk.sc_mono {m m' : Nat → Bool} (h : ∀ k, m k = true → m' k = true) (b : Blk) (hb : b.sc m = true) : b.sc m' = true := by
  cases b <;> simp only [Blk.sc] at *
  · exact scL_mono h _ hb
  · exact scL_mono h _ hb
  · exact scL_mono h _ hb
  · refine List.all_eq_true.2 fun x hx => ?_
    have := List.all_eq_true.1 hb x hx
    simp only [Bool.and_eq_true] at this ⊢
    exact ⟨AV.sc_mono h _ this.1, AV.sc_mono h _ this.2⟩

/-- where old blocks stand, and some own ones are turned -/
theorem SR.turn {e e' : Env} {B : Nat} {h h' : List Blk} {w w' : World} (hs : SR e B h w) (hz : w.heap.size ≤ w'.heap.size)
    (hb : ∀ k b, h'[k]? = some b → BR e' B k b w')
    (hi : ∀ k k' b b', h'[k]? = some b → h'[k']? = some b' → b.own = true → b'.own = true → k ≠ k' → e'.β k ≠ e'.β k')
    (hc : ∀ (k : Nat) (b : Blk), h'[k]? = some b → b.sc (lt h'.length) = true) : SR e' B h' w' := ⟨Nat.le_trans hs.size hz, hb, hi, hc⟩
theorem SR.new {e : Env} {B : Nat} {h : List Blk} {w w' : World} (hs : SR e B h w) (b : Blk) (c : Nat) (hz : w.heap.size ≤ w'.heap.size) (hold : ∀ k, k < w.heap.size → w'.heap[k]? = w.heap[k]?)
    (hb : BR (e.ext h.length w.heap.size c) B h.length b w') (hsc : b.sc (lt (h.length + 1)) = true) : SR (e.ext h.length w.heap.size c) B (h ++ [b]) w' := by
  have hg : ∀ (k : Nat) (x : Blk), (h ++ [b])[k]? = some x → (k < h.length ∧ h[k]? = some x) ∨ (k = h.length ∧ x = b) := fun k x hx => by
    rcases Nat.lt_or_ge k h.length with hk | hk
    · rw [List.getElem?_append_left hk] at hx; exact .inl ⟨hk, hx⟩
    · rw [List.getElem?_append_right hk] at hx
      have : k = h.length := by
        have := (List.getElem?_eq_some_iff.1 hx).1
        simp at this; omega
      subst this
      simp at hx; exact .inr ⟨rfl, hx.symm⟩
  refine hs.turn hz (fun k x hx => ?_) (fun k k' x x' hx hx' ho ho' hne => ?_) (fun k x hx => ?_)
  · rcases hg k x hx with ⟨hk, h1⟩ | ⟨rfl, rfl⟩
    · refine ((hs.blk k x h1).agr (Env.ext_agr e _ _ c) (lt_iff.2 hk) (hs.sc k x h1)).same (fun g hg => hold g (Nat.lt_of_lt_of_le hg hs.size)) fun ho => hold _ ?_
      rw [← (Env.ext_agr e h.length w.heap.size c k (lt_iff.2 hk)).1]
      exact ((hs.blk k x h1).lt ho).2
    · exact hb
  · rcases hg k x hx with ⟨hk, h1⟩ | ⟨rfl, rfl⟩ <;> rcases hg k' x' hx' with ⟨hk', h1'⟩ | ⟨rfl, rfl⟩
    · rw [← (Env.ext_agr e h.length w.heap.size c k (lt_iff.2 hk)).1, ← (Env.ext_agr e h.length w.heap.size c k' (lt_iff.2 hk')).1]
      exact hs.inj k k' x x' h1 h1' ho ho' hne
    · rw [← (Env.ext_agr e h.length w.heap.size c k (lt_iff.2 hk)).1, Env.ext_β]
      have := ((hs.blk k x h1).lt ho).2
      omega
    · rw [← (Env.ext_agr e h.length w.heap.size c k' (lt_iff.2 hk')).1, Env.ext_β]
      have := ((hs.blk k' x' h1').lt ho').2
      omega
    · exact absurd rfl hne
  · rw [List.length_append, List.length_singleton]
    rcases hg k x hx with ⟨hk, h1⟩ | ⟨rfl, rfl⟩
    · exact x.sc_mono (lt_mono (Nat.le_succ _)) (hs.sc k x h1)
    · exact hsc
theorem SR.alloc {e : Env} {B : Nat} {h : List Blk} {w : World} (hs : SR e B h w) (b : Blk) (c : Nat) (o : Obj) (hb : BR (e.ext h.length w.heap.size c) B h.length b (w.alloc o)) (hsc : b.sc (lt (h.length + 1)) = true) :
    SR (e.ext h.length w.heap.size c) B (h ++ [b]) (w.alloc o) :=
  hs.new b c (by simp) (fun k hk => Below.heap_alloc _ _ _ hk) hb hsc
theorem Fr.alloc (e : Env) (n : Nat) (d : List Nat) (w : World) (o : Obj) : Fr e n d w (w.alloc o) := ⟨rfl, rfl, rfl, by simp, fun b hb _ => Below.heap_alloc _ _ _ hb⟩
theorem heap_new (w : World) (o : Obj) : (w.alloc o).heap[w.heap.size]? = some o := by
  show (w.heap.push o)[w.heap.size]? = _
  simp
theorem set_get {h : List Blk} {k k' : Nat} {x y : Blk} (hx : (h.set k y)[k']? = some x) : (k' = k ∧ x = y ∧ k < h.length) ∨ (k' ≠ k ∧ h[k']? = some x) := by
  rw [List.getElem?_set] at hx
  split at hx
  · rename_i e; subst e
    split at hx
    · exact .inl ⟨rfl, (Option.some.inj hx).symm, by assumption⟩
    · cases hx
  · rename_i e; exact .inr ⟨fun h => e h.symm, hx⟩
/-- an own block is turned -/
theorem SR.upd {e : Env} {B : Nat} {h : List Blk} {w w' : World} (hs : SR e B h w) {k : Nat} {b b' : Blk} (hk : h[k]? = some b) (ho : b.own = true) (hz : w.heap.size ≤ w'.heap.size)
    (hold : ∀ g, g ≠ e.β k → g < w.heap.size → w'.heap[g]? = w.heap[g]?) (hb : BR e B k b' w') (hsc : b'.sc (lt h.length) = true) : SR e B (h.set k b') w' := by
  have hlt := (hs.blk k b hk).lt ho
  refine hs.turn hz (fun k' x hx => ?_) (fun k1 k2 x x' hx hx' h1 h2 hne => ?_) (fun k' x hx => ?_)
  · rcases set_get hx with ⟨rfl, rfl, _⟩ | ⟨hne, h1⟩
    · exact hb
    · exact (hs.blk k' x h1).same (fun g hg => hold g (by omega) (by have := hs.size; omega)) fun hox => hold _ (hs.inj k' k x b h1 hk hox ho hne) ((hs.blk k' x h1).lt hox).2
  · have hsome : ∀ {k' : Nat} {x : Blk}, (h.set k b')[k']? = some x → x.own = true → ∃ y : Blk, h[k']? = some y ∧ y.own = true := fun {k' x} hx hox => by
      rcases set_get hx with ⟨rfl, rfl, _⟩ | ⟨_, h1⟩
      · exact ⟨b, hk, ho⟩
      · exact ⟨x, h1, hox⟩
    obtain ⟨y, hy, hoy⟩ := hsome hx h1
    obtain ⟨y', hy', hoy'⟩ := hsome hx' h2
    exact hs.inj k1 k2 y y' hy hy' hoy hoy' hne
  · rw [List.length_set]
    rcases set_get hx with ⟨rfl, rfl, _⟩ | ⟨_, h1⟩
    · exact hsc
    · exact hs.sc k' x h1
/-- a call that keeps all blocks -/
theorem SR.keep {e : Env} {B : Nat} {h : List Blk} {w w' : World} (hs : SR e B h w) (hb : Below w.heap.size w w') : SR e B h w' :=
  hs.turn hb.size (fun k b hk => (hs.blk k b hk).same (fun g hg => hb.block g (Nat.lt_of_lt_of_le hg hs.size)) fun ho => hb.block _ ((hs.blk k b hk).lt ho).2) hs.inj hs.sc
theorem Fr.keep {e : Env} {n : Nat} {d : List Nat} {w w' : World} (hb : Below w.heap.size w w') : Fr e n d w w' := ⟨hb.os, hb.tape, hb.output, hb.size, fun b h _ => hb.block b h⟩
theorem SR.drew {e : Env} {B : Nat} {h : List Blk} {w : World} (hs : SR e B h w) : SR e B h w.drew := hs.keep (Below.refl _ _).drew

/-- what a piece of the evaluator's work does to a world: n abstract blocks ahead of it, n' behind it; d: which of the old ones it turned -/
structure Po (B : Nat) (e : Env) (n : Nat) (d : List Nat) (w : World) (e' : Env) (n' : Nat) (w' : World) : Prop where
  agr : Agr (lt n) e e'
  fr : Fr e n d w w'
  le : n ≤ n'
  new : ∀ k, n ≤ k → k < n' → w.heap.size ≤ e'.β k ∨ ∃ j, j < n ∧ j ∈ d ∧ e'.β k = e.β j
  low : ∀ g, g < B → w'.heap[g]? = w.heap[g]?
theorem Po.refl (B : Nat) (e : Env) (n : Nat) (w : World) : Po B e n [] w e n w := ⟨Agr.refl _ _, Fr.refl _ _ _, Nat.le_refl _, fun k h1 h2 => by omega, fun _ _ => rfl⟩
theorem Po.of {B : Nat} {e : Env} {n : Nat} {d : List Nat} {w w' : World} (h : Fr e n d w w') (hl : ∀ g, g < B → w'.heap[g]? = w.heap[g]?) : Po B e n d w e n w' := ⟨Agr.refl _ _, h, Nat.le_refl _, fun k h1 h2 => by omega, hl⟩
theorem Po.keep {B : Nat} {e : Env} {n : Nat} {w w' : World} (hb : Below w.heap.size w w') (hB : B ≤ w.heap.size) : Po B e n [] w e n w' := Po.of (Fr.keep hb) fun g hg => hb.block g (Nat.lt_of_lt_of_le hg hB)
theorem Po.alloc {B : Nat} (e : Env) (n c : Nat) (w : World) (o : Obj) (hB : B ≤ w.heap.size) : Po B e n [] w (e.ext n w.heap.size c) (n + 1) (w.alloc o) :=
  ⟨Env.ext_agr _ _ _ _, Fr.alloc _ _ _ _ _, Nat.le_succ _, fun k h1 h2 => by
    obtain rfl : k = n := by omega
    exact .inl (by rw [Env.ext_β]; exact Nat.le_refl _), fun g hg => Below.heap_alloc _ _ _ (by omega)⟩
theorem Po.trans {B : Nat} {e e1 e2 : Env} {n n1 n2 : Nat} {d1 d2 : List Nat} {w w1 w2 : World} (h : Po B e n d1 w e1 n1 w1) (k : Po B e1 n1 d2 w1 e2 n2 w2) : Po B e n (d1 ++ d2) w e2 n2 w2 := by
  refine ⟨h.agr.trans (k.agr.mono (lt_mono h.le)), ⟨k.fr.os.trans h.fr.os, k.fr.tape.trans h.fr.tape, k.fr.output.trans h.fr.output, Nat.le_trans h.fr.size k.fr.size, fun b hb hd => ?_⟩, Nat.le_trans h.le k.le, fun j h1 h2 => ?_, fun g hg => (k.low g hg).trans (h.low g hg)⟩
  · have e1b := h.fr.block b hb fun j hj hjd => hd j hj (List.mem_append_left _ hjd)
    have hb1 : b < w1.heap.size := Nat.lt_of_lt_of_le hb h.fr.size
    rw [k.fr.block b hb1 fun j hj hjd => ?_, e1b]
    rcases Nat.lt_or_ge j n with hjn | hjn
    · rw [← (h.agr j (lt_iff.2 hjn)).1]; exact hd j hjn (List.mem_append_right _ hjd)
    · rcases h.new j hjn hj with h3 | ⟨i, hi, hid, h3⟩
      · omega
      · rw [h3]; exact hd i hi (List.mem_append_left _ hid)
  · rcases Nat.lt_or_ge j n1 with hj | hj
    · rw [← (k.agr j (lt_iff.2 hj)).1]
      rcases h.new j h1 hj with h3 | ⟨i, hi, hid, h3⟩
      · exact .inl h3
      · exact .inr ⟨i, hi, List.mem_append_left _ hid, h3⟩
    · rcases k.new j hj h2 with h3 | ⟨i, hi, hid, h3⟩
      · exact .inl (Nat.le_trans h.fr.size h3)
      · rcases Nat.lt_or_ge i n with hin | hin
        · exact .inr ⟨i, hin, List.mem_append_right _ hid, by rw [h3, ← (h.agr i (lt_iff.2 hin)).1]⟩
        · rcases h.new i hin hi with h4 | ⟨i', hi', hid', h4⟩
          · exact .inl (by rw [h3]; exact h4)
          · exact .inr ⟨i', hi', List.mem_append_left _ hid', by rw [h3, h4]⟩
theorem Po.below {B : Nat} {e e' : Env} {n n' : Nat} {d : List Nat} {w w' : World} (h : Po B e n d w e' n' w') : Below B w w' := ⟨h.fr.os, h.fr.tape, h.fr.output, h.fr.size, h.low⟩

/-! loads -/
def Blk.seen : Blk → Option (List AV)
  | .ro _ l | .cells _ _ l | .grow _ _ l => some l
  | _ => none
theorem cell_heap {w : World} {b o : Nat} {c : Array Value} {t : TypeId} {f : Nat × Nat} (h : w.heap[b]? = some (.cells c t f)) : w.cell? ⟨b, o, none⟩ = c[o]? := by
  unfold World.cell?; simp [h]
theorem seen_cell {e : Env} {B : Nat} {h : List Blk} {w : World} (hs : SR e B h w) {k : Nat} {b : Blk} (hk : h[k]? = some b) {l : List AV} (hl : b.seen = some l) :
    ∀ (i : Nat) (v : Value), (denL e l)[i]? = some v → w.cell? ⟨e.β k, i, none⟩ = some v := fun i v hv => by
  have hb := hs.blk k b hk
  cases b <;> simp only [Blk.seen, Option.some.injEq, reduceCtorEq] at hl
  · subst hl
    simp only [BR] at hb
    rw [hb.1]; exact hb.2.2 i v hv
  · subst hl
    simp only [BR] at hb
    rw [cell_heap hb.2]; simpa using hv
  · subst hl
    simp only [BR] at hb
    obtain ⟨_, rest, fz, h1, _⟩ := hb
    rw [cell_heap h1]
    have := (List.getElem?_eq_some_iff.1 hv).1
    simpa [List.getElem?_append_left this] using hv
theorem add_none (b o n : Nat) : (⟨b, o, none⟩ : Addr).add n = ⟨b, o + n, none⟩ := by
  unfold Addr.add; split
  · rename_i h; subst h; rfl
  · rfl
section
variable {P : Program}
theorem run_loadCellsFrom (b o : Nat) (w : World) : ∀ (cs : List Value) (i : Nat) (acc : Array Value), (∀ j v, cs[j]? = some v → w.cell? ⟨b, o + (i + j), none⟩ = some v) →
    (loadCellsFrom ⟨b, o, none⟩ i cs.length acc).run P w = .ok (acc ++ cs.toArray) w
  | [], i, acc, _ => by simp [loadCellsFrom]
  | v :: cs, i, acc, h => by
    have h0 := h 0 v rfl
    rw [Nat.add_zero] at h0
    simp only [List.length_cons, loadCellsFrom, Sem.run_bind, run_load, add_none, h0, Result.andThen_ok]
    rw [run_loadCellsFrom b o w cs (i + 1) (acc.push v) fun j u hj => by
      have := h (j + 1) u (by simpa using hj)
      rwa [show i + (j + 1) = i + 1 + j by omega] at this]
    simp
theorem run_loadCells (b o : Nat) (w : World) (cs : List Value) (h : ∀ j v, cs[j]? = some v → w.cell? ⟨b, o + j, none⟩ = some v) : (loadCells ⟨b, o, none⟩ cs.length).run P w = .ok cs.toArray w := by
  have := run_loadCellsFrom (P := P) b o w cs 0 #[] fun j v hj => by rw [Nat.zero_add]; exact h j v hj
  simpa [loadCells] using this
def isAggD : TypeDesc → Bool
  | .struct _ | .array _ _ => true
  | _ => false
theorem run_isAgg {t : TypeId} {d : TypeDesc} (h : P.underlying t = some d) (w : World) : (isAgg t).run P w = .ok (isAggD d) w := by
  simp only [isAgg, Sem.run_bind, run_underlying h, Result.andThen_ok]
  cases d <;> rfl
theorem run_typeInfo' {t : TypeId} {i : TypeInfo} (h : P.info? t = some i) (w : World) : (typeInfo t).run P w = .ok i w := by
  simp [typeInfo, h]
theorem run_sizeOf' {t : TypeId} {i : TypeInfo} (h : P.info? t = some i) (w : World) : (sizeOf t).run P w = .ok i.size w := by
  simp [sizeOf, run_typeInfo' h]
theorem run_zeroValue' {t : TypeId} {i : TypeInfo} {z : Value} (h : P.info? t = some i) (hz : i.zero = some z) (w : World) : (zeroValue t).run P w = .ok z w := by
  simp [zeroValue, run_typeInfo' h, hz]
/-- what is read of a variable of type t, from cell o on -/
def takeV (P : Program) (t : TypeId) (l : List AV) (o : Nat) : Option AV :=
  match P.underlying t, P.info? t with
  | some d, some i => if isAggD d then (if o + i.size ≤ l.length then some (.a ((l.drop o).take i.size)) else none) else l[o]?
  | _, _ => none
theorem denL_drop_take (e : Env) (l : List AV) (o n : Nat) : denL e ((l.drop o).take n) = ((denL e l).drop o).take n := by
  simp [denL_map, List.map_take, List.map_drop]
theorem denL_get (e : Env) (l : List AV) (i : Nat) : (denL e l)[i]? = (l[i]?).map (·.den e) := by simp [denL_map]
theorem denL_length (e : Env) (l : List AV) : (denL e l).length = l.length := by simp [denL_map]
theorem run_loadVar {e : Env} {w : World} {t : TypeId} {l : List AV} {b o : Nat} {r : AV} (h : takeV P t l o = some r) (hc : ∀ (i : Nat) (v : Value), (denL e l)[i]? = some v → w.cell? ⟨b, i, none⟩ = some v) :
    (loadVar t ⟨b, o, none⟩).run P w = .ok (r.den e) w := by
  unfold takeV at h
  split at h
  · rename_i d i hd hi
    simp only [loadVar, Sem.run_bind, run_isAgg hd, Result.andThen_ok]
    split at h
    · rename_i ha
      rw [ha]
      split at h
      · rename_i hn
        obtain rfl := Option.some.inj h
        simp only [if_true, Sem.run_bind, run_sizeOf' hi, Result.andThen_ok]
        have hl : (denL e ((l.drop o).take i.size)).length = i.size := by rw [denL_length]; simp; omega
        have := run_loadCells (P := P) b o w (denL e ((l.drop o).take i.size)) fun j v hj => hc (o + j) v (by
          rw [denL_drop_take, List.getElem?_take] at hj
          split at hj
          · rwa [List.getElem?_drop] at hj
          · cases hj)
        rw [hl] at this
        rw [this]
        simp [AV.den]
      · cases h
    · rename_i ha
      have : isAggD d = false := by simpa using ha
      rw [this]
      simp only [Bool.false_eq_true, if_false, run_load]
      rw [hc o (r.den e) (by rw [denL_get, h]; rfl)]
  · cases h
end
end Go.Proofs.YtpfoifflfgiaoaaGreatDoor
namespace Go.Proofs.YtpfoifflfgiaoaaGreatDoor
open Go Go.RowKit

def lift0 : Value → AV
  | .int k i => .n k i
  | .bool b => .b b
  | x => .v x
def lift : Value → AV
  | .agg cs => .a (cs.toList.map lift0)
  | .tuple cs => .t (cs.toList.map lift0)
  | x => lift0 x
theorem lift0_den (e : Env) (v : Value) : (lift0 v).den e = v := by
  unfold lift0; split <;> rfl
theorem lift0_denL (e : Env) (l : List Value) : denL e (l.map lift0) = l := by
  rw [denL_map, List.map_map]
  conv => rhs; rw [← List.map_id l]
  apply List.map_congr_left; intro x _; exact lift0_den e x
theorem lift_den (e : Env) (v : Value) : (lift v).den e = v := by
  unfold lift; split
  · simp [AV.den, lift0_denL]
  · simp [AV.den, lift0_denL]
  · exact lift0_den e v
def cellsOf : AV → Option (List AV)
  | .a l => some l
  | x => if x.cell then some [x] else none
theorem cellsOf_den {e : Env} {x : AV} {l : List AV} (h : cellsOf x = some l) : (x.den e).cells = (denL e l).toArray := by
  unfold cellsOf at h
  split at h
  · obtain rfl := Option.some.inj h; rfl
  · split at h
    · rename_i hc
      obtain rfl := Option.some.inj h
      have := AV.cell_den e hc
      simp only [denL]
      cases hx : x.den e <;> simp_all [Value.cells, Value.oneCell']
    · cases h

section
variable {P : Program} {e : Env} {B : Nat} {h : List Blk} {w : World}
/-- what an operation on memory does: a value, an abstract heap, and what is turned -/
def Does (e : Env) (B : Nat) (h : List Blk) (w : World) (run : Result Value) (r : AV) (h' : List Blk) (d : List Nat) : Prop :=
  ∃ e' w', run = .ok (r.den e') w' ∧ SR e' B h' w' ∧ Po B e h.length d w e' h'.length w'
theorem Does.quiet (hs : SR e B h w) {run : Result Value} {r : AV} (hr : run = .ok (r.den e) w) : Does e B h w run r h [] := ⟨e, w, hr, hs, Po.refl _ _ _ _⟩

/-- a new row of cells -/
theorem does_new (hs : SR e B h w) (t : TypeId) (l : List AV) (hsc : scL (lt h.length) l = true) :
    Does e B h w (.ok (.pointer (some ⟨w.heap.size, 0, none⟩)) (w.alloc (.cells (denL e l).toArray t))) (.p h.length 0) (h ++ [.cells t (0, 0) l]) [] := by
  refine ⟨e.ext h.length w.heap.size 0, w.alloc (.cells (denL e l).toArray t), ?_, hs.alloc _ 0 _ ?_ ?_, by rw [List.length_append, List.length_singleton]; exact Po.alloc e h.length 0 w _ hs.size⟩
  · simp [AV.den, Env.ext_β]
  · simp only [BR, Env.ext_β]
    refine ⟨hs.size, ?_⟩
    rw [heap_new, denL_agr (Env.ext_agr e h.length w.heap.size 0) l hsc]
  · simp only [Blk.sc]; exact scL_mono (lt_mono (Nat.le_succ _)) l hsc

def opAlloc (P : Program) (t : TypeId) (h : List Blk) : Option (AV × List Blk) :=
  match P.info? t with
  | some i => match i.zero with
    | some z => match cellsOf (lift z) with
      | some l => if scL (lt h.length) l then some (.p h.length 0, h ++ [.cells t (0, 0) l]) else none
      | none => none
    | none => none
  | none => none
theorem opAlloc_ok {t : TypeId} {r : AV} {h' : List Blk} (hs : SR e B h w) (ho : opAlloc P t h = some (r, h')) (old : Value) : Does e B h w ((Instr.alloc t true old).run P w) r h' [] := by
  unfold opAlloc at ho
  split at ho <;> try cases ho
  rename_i i hi
  split at ho <;> try cases ho
  rename_i z hz
  split at ho <;> try cases ho
  rename_i l hl
  split at ho <;> try cases ho
  rename_i hsc
  have hc := cellsOf_den (e := e) hl
  rw [lift_den] at hc
  have := does_new hs t l hsc
  have hr : (Instr.alloc t true old).run P w = .ok (.pointer (some ⟨w.heap.size, 0, none⟩)) (w.alloc (.cells (denL e l).toArray t)) := by
    simp [Instr.alloc, run_zeroValue' hi hz, newVar, newRow, hc]
  rw [hr]; exact this

def opBox (t : TypeId) (x : AV) (h : List Blk) : Option (AV × List Blk) :=
  match cellsOf x with
  | some l => if scL (lt h.length) l then some (.p h.length 0, h ++ [.cells t (0, 0) l]) else none
  | none => none
theorem opBox_ok {t : TypeId} {x r : AV} {h' : List Blk} (hs : SR e B h w) (ho : opBox t x h = some (r, h')) : Does e B h w ((Instr.box t (x.den e)).run P w) r h' [] := by
  unfold opBox at ho
  split at ho <;> try cases ho
  rename_i l hl
  split at ho <;> try cases ho
  rename_i hsc
  have hr : (Instr.box t (x.den e)).run P w = .ok (.pointer (some ⟨w.heap.size, 0, none⟩)) (w.alloc (.cells (denL e l).toArray t)) := by
    simp [Instr.box, newVar, newRow, cellsOf_den (e := e) hl]
  rw [hr]; exact does_new hs t l hsc

def opLoad (P : Program) (t : TypeId) (a : AV) (h : List Blk) : Option AV :=
  match a with
  | .p k o => match h[k]? with
    | some b => match b.seen with
      | some l => takeV P t l o
      | none => none
    | none => none
  | _ => none
theorem opLoad_ok {t : TypeId} {a r : AV} (hs : SR e B h w) (ho : opLoad P t a h = some r) : (Instr.loadAt t (a.den e)).run P w = .ok (r.den e) w := by
  unfold opLoad at ho
  split at ho <;> try cases ho
  split at ho <;> try cases ho
  rename_i b hb
  split at ho <;> try cases ho
  rename_i l hl
  simp only [Instr.loadAt, AV.den, Instr.sureAddr, Sem.run_bind, Sem.run_pure, Result.andThen_ok]
  exact run_loadVar ho (seen_cell hs hb hl)

/-! stores -/
def splice {α : Type} (l : List α) (o : Nat) (vs : List α) : List α := l.take o ++ vs ++ l.drop (o + vs.length)
theorem splice_nil {α : Type} (l : List α) (o : Nat) : splice l o [] = l := by simp [splice]
theorem splice_map {α β : Type} (f : α → β) (l : List α) (o : Nat) (vs : List α) : (splice l o vs).map f = splice (l.map f) o (vs.map f) := by
  simp [splice, List.map_take, List.map_drop]
theorem splice_cons {α : Type} (l : List α) (o : Nat) (v : α) (vs : List α) (h : o + (vs.length + 1) ≤ l.length) : splice (l.set o v) (o + 1) vs = splice l o (v :: vs) := by
  apply List.ext_getElem?
  intro i
  simp only [splice, List.length_cons]
  by_cases h1 : i < o
  · rw [List.append_assoc, List.append_assoc, List.getElem?_append_left (by simp; omega), List.getElem?_append_left (by simp; omega)]
    rw [List.getElem?_take_of_lt (by omega), List.getElem?_take_of_lt h1, List.getElem?_set_ne (by omega)]
  · by_cases h2 : i = o
    · subst h2
      rw [List.append_assoc, List.append_assoc, List.getElem?_append_left (by simp; omega), List.getElem?_append_right (by simp; omega)]
      rw [List.getElem?_take_of_lt (by omega), List.getElem?_set_self (by omega)]
      simp [Nat.min_eq_left (show i ≤ l.length by omega)]
    · have e1 : (List.take (o + 1) (l.set o v)).length = o + 1 := by simp; omega
      have e2 : (List.take o l).length = o := by simp; omega
      have L : (List.take (o + 1) (l.set o v) ++ vs ++ List.drop (o + 1 + vs.length) (l.set o v))[i]? = (vs ++ List.drop (o + 1 + vs.length) (l.set o v))[i - (o + 1)]? := by
        rw [List.append_assoc, List.getElem?_append_right (by omega), e1]
      have R : (List.take o l ++ v :: vs ++ List.drop (o + (vs.length + 1)) l)[i]? = (v :: (vs ++ List.drop (o + (vs.length + 1)) l))[i - o]? := by
        rw [List.append_assoc, List.getElem?_append_right (by omega), e2, List.cons_append]
      rw [L, R, show i - o = (i - (o + 1)) + 1 by omega, List.getElem?_cons_succ]
      rw [List.drop_set_of_lt (by omega), show o + 1 + vs.length = o + (vs.length + 1) by omega]
theorem denL_splice (e : Env) (l : List AV) (o : Nat) (vs : List AV) : denL e (splice l o vs) = splice (denL e l) o (denL e vs) := by
  rw [denL_map, denL_map, denL_map, splice_map]
theorem run_storeCells (b : Nat) (t : TypeId) (lo hi : Nat) : ∀ (vs cs : List Value) (o i : Nat) (w : World), w.heap[b]? = some (.cells cs.toArray t (lo, hi)) → o + i + vs.length ≤ cs.length → (hi ≤ o + i ∨ o + i + vs.length ≤ lo ∨ hi ≤ lo) → (∀ v ∈ vs, v.oneCell' = true) →
    ∃ w', (storeCells ⟨b, o, none⟩ vs i).run P w = .ok () w' ∧ w'.heap[b]? = some (.cells (splice cs (o + i) vs).toArray t (lo, hi)) ∧ (∀ g, g ≠ b → w'.heap[g]? = w.heap[g]?) ∧ w'.heap.size = w.heap.size ∧ w'.os = w.os ∧ w'.tape = w.tape ∧ w'.output = w.output
  | [], cs, o, i, w, hb, _, _, _ => ⟨w, by simp [storeCells], by rw [splice_nil]; exact hb, fun _ _ => rfl, rfl, rfl, rfl, rfl⟩
  | v :: vs, cs, o, i, w, hb, hn, hf, hv => by
    simp only [List.length_cons] at hn hf
    have hc : w.cell? ⟨b, o + i, none⟩ = some cs[o + i] := by
      rw [cell_heap hb]; simp
    have hfr : w.frozen? ⟨b, o + i, none⟩ = false := by
      unfold World.frozen?; simp only [hb]
      rcases hf with hf | hf | hf
      · simp; omega
      · simp; omega
      · simp; omega
    have hb' : (w.setCell ⟨b, o + i, none⟩ v).heap[b]? = some (.cells (cs.set (o + i) v).toArray t (lo, hi)) := by
      simp [World.setCell, Array.getElem?_modify, hb]
    obtain ⟨w', h1, h2, h3, h4, h5, h6, h7⟩ := run_storeCells b t lo hi vs (cs.set (o + i) v) o (i + 1) _ hb' (by simp; omega) (by omega) fun u hu => hv u (List.mem_cons_of_mem _ hu)
    refine ⟨w', ?_, ?_, fun g hg => ?_, ?_, h5, h6, h7⟩
    · simp only [storeCells, Sem.run_bind, add_none]
      rw [run_store P w _ v _ (hv v (List.mem_cons_self ..)), hc]
      simp only [hfr, Bool.false_eq_true, if_false, Result.andThen_ok]
      exact h1
    · rw [h2, show o + (i + 1) = o + i + 1 by omega, splice_cons _ _ _ _ (by omega)]
    · rw [h3 g hg]; exact Below.heap_setCell w _ v g hg
    · rw [h4, World.size_setCell]

def opStore (P : Program) (t : TypeId) (a x : AV) (h : List Blk) : Option (List Blk × List Nat) :=
  match a with
  | .p k o => match h[k]?, cellsOf x, P.info? t with
    | some (.cells el (lo, hi) l), some vs, some i =>
      if vs.length = i.size ∧ o + vs.length ≤ l.length ∧ (hi ≤ o ∨ o + vs.length ≤ lo ∨ hi ≤ lo) ∧ vs.all AV.cell = true ∧ scL (lt h.length) vs = true then some (h.set k (.cells el (lo, hi) (splice l o vs)), [k]) else none
    | _, _, _ => none
  | _ => none
theorem scL_splice {m : Nat → Bool} {l vs : List AV} {o : Nat} (h : scL m l = true) (h' : scL m vs = true) : scL m (splice l o vs) = true := by
  rw [scL_all] at *
  refine List.all_eq_true.2 fun x hx => ?_
  simp only [splice, List.mem_append] at hx
  rcases hx with (hx | hx) | hx
  · exact List.all_eq_true.1 h x (List.mem_of_mem_take hx)
  · exact List.all_eq_true.1 h' x hx
  · exact List.all_eq_true.1 h x (List.mem_of_mem_drop hx)
theorem opStore_ok {t : TypeId} {a x : AV} {h' : List Blk} {d : List Nat} (hs : SR e B h w) (ho : opStore P t a x h = some (h', d)) :
    ∃ w', (Instr.storeAt t (a.den e) (x.den e)).run P w = .ok () w' ∧ SR e B h' w' ∧ Po B e h.length d w e h'.length w' := by
  unfold opStore at ho
  split at ho <;> try cases ho
  rename_i k o
  split at ho <;> try cases ho
  rename_i el lo hi l vs i hk hx hi'
  split at ho <;> try cases ho
  rename_i hh
  obtain ⟨h1, h2, h3, h4, h5⟩ := hh
  have hb := hs.blk k _ hk
  simp only [BR] at hb
  obtain ⟨w', r1, r2, r3, r4, r5, r6, r7⟩ := run_storeCells (P := P) (e.β k) el lo hi (denL e vs) (denL e l) o 0 w hb.2 (by rw [denL_length, denL_length]; omega) (by rw [denL_length]; omega) fun v hv => by
    rw [denL_map] at hv
    obtain ⟨y, hy, rfl⟩ := List.mem_map.1 hv
    exact AV.cell_den e (List.all_eq_true.1 h4 y hy)
  refine ⟨w', ?_, ?_, by rw [List.length_set]; exact Po.of ⟨r5, r6, r7, by omega, fun b hbl hne => r3 b fun h => hne k (List.getElem?_eq_some_iff.1 hk).1 (by simp) h.symm⟩ fun g hg => r3 g (by have := hb.1; omega)⟩
  · have hc := cellsOf_den (e := e) hx
    simp only [Instr.storeAt, AV.den, Instr.sureAddr, Sem.run_bind, Sem.run_pure, Result.andThen_ok, storeVar, run_sizeOf' hi', hc]
    have : ((denL e vs).toArray.size ≠ i.size) = False := by simp [denL_length, h1]
    simp only [this, if_false, Sem.run_pure, Result.andThen_ok]
    exact r1
  · refine hs.upd hk rfl (by omega) (fun g hg _ => r3 g hg) ?_ ?_
    · simp only [BR]
      refine ⟨hb.1, ?_⟩
      rw [r2, Nat.add_zero, denL_splice]
    · simp only [Blk.sc]
      exact scL_splice (by have := hs.sc k _ hk; simpa only [Blk.sc] using this) h5
end
end Go.Proofs.YtpfoifflfgiaoaaGreatDoor
namespace Go.Proofs.YtpfoifflfgiaoaaGreatDoor
open Go Go.RowKit

/-- numbers of a kind -/
def inR (k : IntKind) (i : Int) : Bool := match k with
  | .u8 => decide (0 ≤ i) && decide (i ≤ 255)
  | .u16 => decide (0 ≤ i) && decide (i ≤ 65535)
  | .u32 => decide (0 ≤ i) && decide (i ≤ 4294967295)
  | .u64 => decide (0 ≤ i) && decide (i ≤ 18446744073709551615)
  | .i8 => decide (-128 ≤ i) && decide (i ≤ 127)
  | .i16 => decide (-32768 ≤ i) && decide (i ≤ 32767)
  | .i32 => decide (-2147483648 ≤ i) && decide (i ≤ 2147483647)
  | .i64 => decide (-9223372036854775808 ≤ i) && decide (i ≤ 9223372036854775807)
theorem inR_ok {k : IntKind} {i : Int} (h : inR k i = true) : k.min ≤ i ∧ i ≤ k.max := by
  cases k <;> simp only [inR, Bool.and_eq_true, decide_eq_true_eq] at h <;> exact h
/-- k.wrap, for the kernel's sake -/
def wrapF (k : IntKind) (n : Int) : Int := match k with
  | .u8 => n % 256
  | .u16 => n % 65536
  | .u32 => n % 4294967296
  | .u64 => n % 18446744073709551616
  | .i8 => (n + 128) % 256 - 128
  | .i16 => (n + 32768) % 65536 - 32768
  | .i32 => (n + 2147483648) % 4294967296 - 2147483648
  | .i64 => (n + 9223372036854775808) % 18446744073709551616 - 9223372036854775808
theorem wrapF_eq (k : IntKind) (n : Int) : wrapF k n = k.wrap n := by
  cases k <;> simp only [wrapF, IntKind.wrap, IntKind.bits, IntKind.signed] <;> simp <;> (try split) <;> omega
theorem wrapF_in (k : IntKind) (n : Int) : k.min ≤ wrapF k n ∧ wrapF k n ≤ k.max := by rw [wrapF_eq]; exact wrap_within k n
/-- a number: is it literal -/
structure RI where
  l : Bool
  k : IntKind
  i : Int
  h : k.min ≤ i ∧ i ≤ k.max
def ri : AV → Option RI
  | .n k i => if h : inR k i = true then some ⟨true, k, i, inR_ok h⟩ else none
  | .x k i => some ⟨false, k, i.1, i.2⟩
  | _ => none
def RI.av (l : Bool) (k : IntKind) (i : Int) (h : k.min ≤ i ∧ i ≤ k.max) : AV := if l then .n k i else .x k ⟨i, h⟩
def intV (x : AV) : Option (Bool × IntKind × Int) := match ri x with
  | some r => some (r.l, r.k, r.i)
  | none => none
def boolV : AV → Option (Bool × Bool)
  | .b x => some (true, x)
  | .v (.bool x) => some (false, x)
  | _ => none
def mkW (l : Bool) (k : IntKind) (i : Int) : AV := if l then .n k (wrapF k i) else .x k ⟨wrapF k i, wrapF_in k i⟩
def mkBits (l : Bool) (op : BinOp) (k : IntKind) (a b : Int) : AV := if l then .n k (bits op k a b) else .x k ⟨bits op k a b, bits_within op k a b⟩
def mkB (l : Bool) (b : Bool) : AV := if l then .b b else .v (.bool b)
/-- a truth value, decided: by itself -/
def decB (x : AV) (pa : List Nat) : Option (Bool × List Nat × List Bool) :=
  match x, pa with
  | .b x, pa => some (x, pa, [])
  | .v (.bool c), pa => some (c, pa, [])
  | _, _ => none
def decI (x : AV) (pa : List Nat) : Option (IntKind × Int × List Nat × List Bool) :=
  match x, pa with
  | .n k i, pa => some (k, i, pa, [])
  | _, _ => none
section
variable {P : Program} {e : Env} {B : Nat} {h : List Blk} {w : World}
theorem ri_den {x : AV} {r : RI} (hx : ri x = some r) : x.den e = .int r.k r.i := by
  unfold ri at hx
  split at hx
  · split at hx <;> try cases hx
    rfl
  · cases hx; rfl
  · cases hx
theorem av_den (l : Bool) (k : IntKind) (i : Int) (h : k.min ≤ i ∧ i ≤ k.max) : (RI.av l k i h).den e = .int k i := by unfold RI.av; split <;> rfl
theorem intV_den {x : AV} {l : Bool} {k : IntKind} {i : Int} (hx : intV x = some (l, k, i)) : x.den e = .int k i := by
  unfold intV at hx
  split at hx <;> simp only [Option.some.injEq, Prod.mk.injEq, reduceCtorEq] at hx
  rename_i r hr
  obtain ⟨_, rfl, rfl⟩ := hx
  exact ri_den hr
theorem boolV_den {x : AV} {l b : Bool} (hx : boolV x = some (l, b)) : x.den e = .bool b := by
  unfold boolV at hx
  split at hx <;> simp only [Option.some.injEq, Prod.mk.injEq, reduceCtorEq] at hx
  all_goals obtain ⟨_, rfl⟩ := hx; rfl
theorem mkW_den (l : Bool) (k : IntKind) (i : Int) : (mkW l k i).den e = .int k (k.wrap i) := by unfold mkW; split <;> simp only [AV.den, wrapF_eq]
theorem mkBits_den (l : Bool) (op : BinOp) (k : IntKind) (a b : Int) : (mkBits l op k a b).den e = .int k (bits op k a b) := by unfold mkBits; split <;> rfl
theorem mkB_den (l b : Bool) : (mkB l b).den e = .bool b := by unfold mkB; split <;> rfl
theorem decB_ok {x : AV} {pa pa' : List Nat} {b : Bool} {ob : List Bool} (hx : decB x pa = some (b, pa', ob)) (ho : ∀ o ∈ ob, o = true) : x.den e = .bool b := by
  unfold decB at hx
  split at hx <;> simp only [Option.some.injEq, Prod.mk.injEq, reduceCtorEq] at hx
  all_goals obtain ⟨rfl, _, _⟩ := hx; rfl
theorem decI_ok {x : AV} {pa pa' : List Nat} {k : IntKind} {i : Int} {ob : List Bool} (hx : decI x pa = some (k, i, pa', ob)) (ho : ∀ o ∈ ob, o = true) : x.den e = .int k i := by
  unfold decI at hx
  split at hx <;> simp only [Option.some.injEq, Prod.mk.injEq, reduceCtorEq] at hx
  obtain ⟨rfl, rfl, _, _⟩ := hx; rfl

/-! integers -/
theorem fdiv_in {k : IntKind} {a : Int} (h : k.min ≤ a ∧ a ≤ k.max) (n : Nat) : k.min ≤ a.fdiv ((2 ^ n : Nat) : Int) ∧ a.fdiv ((2 ^ n : Nat) : Int) ≤ k.max := by
  have hp : 0 < (2 ^ n : Nat) := Nat.pow_pos (by omega)
  generalize 2 ^ n = d at *
  rw [Int.fdiv_eq_ediv_of_nonneg _ (by omega)]
  have hm : k.min ≤ 0 ∧ 0 ≤ k.max := by cases k <;> decide
  have h1 := Int.ediv_mul_le a (b := (d : Int)) (by omega)
  have h2 := Int.lt_ediv_add_one_mul_self a (b := (d : Int)) (by omega)
  generalize a / (d : Int) = q at *
  have hd : (1 : Int) ≤ d := by omega
  constructor
  · rcases Int.lt_or_le q 0 with hq | hq
    · have : q * d ≤ q * 1 := Int.mul_le_mul_of_nonpos_left (by omega) (by omega)
      have h3 : (q + 1) * (d : Int) ≤ (q + 1) * 1 := Int.mul_le_mul_of_nonpos_left (by omega) (by omega)
      omega
    · omega
  · rcases Int.lt_or_le q 0 with hq | hq
    · omega
    · have : q * 1 ≤ q * d := Int.mul_le_mul_of_nonneg_left (by omega) hq
      omega
theorem tmod_le {a : Int} (h : 0 ≤ a) (b : Int) : a.tmod b ≤ a := by
  obtain ⟨m, rfl⟩ := Int.eq_ofNat_of_zero_le h
  cases b with
  | ofNat n => exact Int.ofNat_le.2 (Nat.mod_le m n)
  | negSucc n => exact Int.ofNat_le.2 (Nat.mod_le m (n + 1))
theorem tmod_in {k : IntKind} {a : Int} (h : k.min ≤ a ∧ a ≤ k.max) (b : Int) : k.min ≤ a.tmod b ∧ a.tmod b ≤ k.max := by
  have hm : k.min ≤ 0 ∧ 0 ≤ k.max := by cases k <;> decide
  rcases Int.lt_or_le a 0 with ha | ha
  · have h0 : (-a).tmod b = -(a.tmod b) := Int.neg_tmod ..
    have h1 := Int.tmod_nonneg b (show 0 ≤ -a by omega)
    have h2 := tmod_le (show 0 ≤ -a by omega) b
    omega
  · have h1 := Int.tmod_nonneg b ha
    have h2 := tmod_le ha b
    omega
def opInt (op : BinOp) (x y : RI) : Option (AV × List Bool) :=
  match op with
  | .shl => some (mkW (x.l && y.l) x.k (x.i * ((2 ^ (min y.i.toNat x.k.bits) : Nat) : Int)), [decide (0 ≤ y.i)])
  | .shr => some (RI.av (x.l && y.l) x.k (x.i.fdiv ((2 ^ (min y.i.toNat x.k.bits) : Nat) : Int)) (fdiv_in x.h _), [decide (0 ≤ y.i)])
  | op => if x.k = y.k then match op with
    | .add => some (mkW (x.l && y.l) x.k (x.i + y.i), [])
    | .sub => some (mkW (x.l && y.l) x.k (x.i - y.i), [])
    | .mul => some (mkW (x.l && y.l) x.k (x.i * y.i), [])
    | .quo => some (mkW (x.l && y.l) x.k (x.i.tdiv y.i), [!(y.i == 0)])
    | .rem => some (RI.av (x.l && y.l) x.k (x.i.tmod y.i) (tmod_in x.h _), [!(y.i == 0)])
    | .and => some (mkBits (x.l && y.l) .and x.k x.i y.i, [])
    | .or => some (mkBits (x.l && y.l) .or x.k x.i y.i, [])
    | .xor => some (mkBits (x.l && y.l) .xor x.k x.i y.i, [])
    | .andNot => some (mkBits (x.l && y.l) .andNot x.k x.i y.i, [])
    | .eql => some (mkB (x.l && y.l) (x.i == y.i), [])
    | .neq => some (mkB (x.l && y.l) (x.i != y.i), [])
    | .lss => some (mkB (x.l && y.l) (decide (x.i < y.i)), [])
    | .leq => some (mkB (x.l && y.l) (decide (x.i ≤ y.i)), [])
    | .gtr => some (mkB (x.l && y.l) (decide (x.i > y.i)), [])
    | .geq => some (mkB (x.l && y.l) (decide (x.i ≥ y.i)), [])
    | _ => none else none
theorem opInt_ok {op : BinOp} {x y : RI} {r : AV} {ob : List Bool} (t : TypeId) (hr : opInt op x y = some (r, ob)) (ho : ∀ o ∈ ob, o = true) :
    (binOp op t (.int x.k x.i) (.int y.k y.i)).run P w = .ok (r.den e) w := by
  unfold opInt at hr
  split at hr
  · simp only [Option.some.injEq, Prod.mk.injEq] at hr
    obtain ⟨rfl, rfl⟩ := hr
    have h0 := of_decide_eq_true (ho _ (List.mem_singleton.2 rfl))
    rw [mkW_den]
    simp [binOp, Op.shift, show ¬ y.i < 0 by omega]
  · simp only [Option.some.injEq, Prod.mk.injEq] at hr
    obtain ⟨rfl, rfl⟩ := hr
    have h0 := of_decide_eq_true (ho _ (List.mem_singleton.2 rfl))
    rw [av_den]
    simp [binOp, Op.shift, show ¬ y.i < 0 by omega]
  · split at hr <;> try cases hr
    rename_i hk
    rw [← hk]
    split at hr <;> simp only [Option.some.injEq, Prod.mk.injEq, reduceCtorEq] at hr
    all_goals obtain ⟨rfl, rfl⟩ := hr
    all_goals first | rw [mkW_den] | rw [mkB_den] | rw [mkBits_den] | rw [av_den]
    case h_4 =>
      have h0 := ho _ (List.mem_singleton.2 rfl)
      simp only [Bool.not_eq_true', beq_eq_false_iff_ne, ne_eq] at h0
      simp [binOp, Op.intDiv, h0]
    case h_5 =>
      have h0 := ho _ (List.mem_singleton.2 rfl)
      simp only [Bool.not_eq_true', beq_eq_false_iff_ne, ne_eq] at h0
      simp [binOp, Op.intDiv, h0]
    all_goals simp [binOp, Op.intArith, Op.intCmp, intBits_and, intBits_or, intBits_xor, intBits_andNot]

/-! equality, decided -/
theorem run_part {t : TypeId} {l : List AV} {o : Nat} {r : AV} (h : takeV P t l o = some r) : (part t (denL e l).toArray o).run P w = .ok (r.den e) w := by
  unfold takeV at h
  split at h
  · rename_i d i hd hi
    simp only [part, Sem.run_bind, run_isAgg hd, Result.andThen_ok]
    split at h
    · rename_i ha
      rw [ha]
      split at h
      · obtain rfl := Option.some.inj h
        simp only [if_true, Sem.run_bind, run_sizeOf' hi, Result.andThen_ok, Sem.run_pure, AV.den, denL_drop_take]
        congr 2
        simp [List.take_drop, List.extract_eq_take_drop]
      · cases h
    · rename_i ha
      have : isAggD d = false := by simpa using ha
      rw [this]
      have h2 : (denL e l).toArray[o]? = some (r.den e) := by
        rw [List.getElem?_toArray, denL_get, h]; rfl
      simp only [Bool.false_eq_true, if_false, h2, Sem.run_pure]
  · cases h
abbrev Dec := Option (Bool × List Nat × List Bool)
abbrev EqD := Option (Bool × Bool)
def eqFieldsA (P : Program) (eq : TypeId → AV → AV → EqD) (xs ys : List AV) : List Field → EqD
  | [] => some (true, true)
  | f :: fs =>
    if f.name ≠ "_" then match takeV P f.type xs f.offset, takeV P f.type ys f.offset with
      | some a, some b => match eq f.type a b, eqFieldsA P eq xs ys fs with
        | some (l, r), some (l', r') => some (l && l', r && r')
        | _, _ => none
      | _, _ => none
    else eqFieldsA P eq xs ys fs
def eqItemsA (P : Program) (eq : TypeId → AV → AV → EqD) (t : TypeId) (c : Nat) (xs ys : List AV) : List Nat → EqD
  | [] => some (true, true)
  | i :: is => match takeV P t xs (i * c), takeV P t ys (i * c) with
      | some a, some b => match eq t a b, eqItemsA P eq t c xs ys is with
        | some (l, r), some (l', r') => some (l && l', r && r')
        | _, _ => none
      | _, _ => none
def eqA (P : Program) : Nat → TypeId → AV → AV → EqD
  | 0, _, _, _ => none
  | d + 1, t, x, y => match P.underlying t with
    | some .bool => match boolV x, boolV y with
      | some (l, a), some (l', b) => some (l && l', a == b)
      | _, _ => none
    | some (.int q) => match ri x, ri y with
      | some a, some b => if a.k = b.k then some (a.l && b.l, a.i == b.i) else none
      | _, _ => none
    | some .string => match x, y with
      | .v (.string a), .v (.string b) => some (true, a.data.toList == b.data.toList)
      | _, _ => none
    | some (.struct fs) => match x, y with
      | .a xs, .a ys => if P.stoodInHeld t then none else eqFieldsA P (eqA P d) xs ys fs.toList
      | _, _ => none
    | some (.array n el) => match x, y, P.info? el with
      | .a xs, .a ys, some i => eqItemsA P (eqA P d) el i.size xs ys (List.range n)
      | _, _, _ => none
    | some (.pointer te) => match x, y with
      | .v (.pointer none), .v (.pointer none) => some (true, true)
      | .v (.pointer none), .p _ _ => some (true, false)
      | .p _ _, .v (.pointer none) => some (true, false)
      | .p k o, .p k' o' => if (P.info? te).isSome = true ∧ k = k' ∧ o = o' then some (true, true) else none
      | _, _ => none
    | some (.func _ _ _) => match x, y with
      | .v .nilFunc, .v .nilFunc => some (true, true)
      | .v .nilFunc, .f _ _ _ => some (true, false)
      | .f _ _ _, .v .nilFunc => some (true, false)
      | _, _ => none
    | some (.slice _) => match x, y with
      | .v (.slice none _ _), .v (.slice none _ _) => some (true, true)
      | .v (.slice none _ _), .s _ _ _ _ => some (true, false)
      | .s _ _ _ _, .v (.slice none _ _) => some (true, false)
      | _, _ => none
    | _ => none
def EqOk (P : Program) (e : Env) (w : World) (n : Nat) (eq : TypeId → AV → AV → EqD) : Prop :=
  ∀ t x y l b, eq t x y = some (l, b) → (Op.equalIn n t (x.den e) (y.den e)).run P w = .ok b w
theorem eqFieldsA_ok {n : Nat} {eq : TypeId → AV → AV → EqD} (H : EqOk P e w n eq) (xs ys : List AV) : ∀ (fs : List Field) (l b : Bool), eqFieldsA P eq xs ys fs = some (l, b) →
    (Op.eqFields n (denL e xs).toArray (denL e ys).toArray fs).run P w = .ok b w
  | [], l, b, hq => by
    simp only [eqFieldsA, Option.some.injEq, Prod.mk.injEq] at hq
    simp [Op.eqFields, hq.2]
  | f :: fs, l, b, hq => by
    unfold eqFieldsA at hq
    split at hq
    · rename_i hn
      split at hq <;> try cases hq
      rename_i u v hu hv
      simp only [Op.eqFields, hn, ne_eq, not_false_eq_true, if_true, Sem.run_bind, run_part hu, run_part hv, Result.andThen_ok]
      split at hq <;> try cases hq
      rename_i l1 r1 l2 r2 h1 h2
      rw [H _ _ _ _ _ h1]
      cases r1
      · simp
      · simpa using eqFieldsA_ok H xs ys fs _ _ h2
    · rename_i hn
      simp only [Op.eqFields, hn, if_false]
      exact eqFieldsA_ok H xs ys fs l b hq
theorem eqItemsA_ok {n : Nat} {eq : TypeId → AV → AV → EqD} (H : EqOk P e w n eq) (t : TypeId) (c : Nat) (xs ys : List AV) : ∀ (is : List Nat) (l b : Bool), eqItemsA P eq t c xs ys is = some (l, b) →
    (Op.eqItems n t c (denL e xs).toArray (denL e ys).toArray is).run P w = .ok b w
  | [], l, b, hq => by
    simp only [eqItemsA, Option.some.injEq, Prod.mk.injEq] at hq
    simp [Op.eqItems, hq.2]
  | i :: is, l, b, hq => by
    unfold eqItemsA at hq
    split at hq <;> try cases hq
    rename_i u v hu hv
    simp only [Op.eqItems, Sem.run_bind, run_part hu, run_part hv, Result.andThen_ok]
    split at hq <;> try cases hq
    rename_i l1 r1 l2 r2 h1 h2
    rw [H _ _ _ _ _ h1]
    cases r1
    · simp
    · simpa using eqItemsA_ok H t c xs ys is _ _ h2
theorem eqA_ok (m : Nat) : ∀ d, EqOk P e w (m + d) (eqA P d)
  | 0 => fun t x y l b hq => by simp [eqA] at hq
  | d + 1 => fun t x y l b hq => by
    unfold eqA at hq
    rw [show m + (d + 1) = (m + d) + 1 from rfl]
    split at hq
    · rename_i hu
      split at hq <;> try cases hq
      rename_i l a l' b' ha hb
      rw [boolV_den ha, boolV_den hb]
      simp [Op.equalIn, run_underlying hu]
    · rename_i q hu
      split at hq <;> try cases hq
      rename_i a b' ha hb
      split at hq <;> try cases hq
      rename_i hk
      rw [ri_den ha, ri_den hb, ← hk]
      simp [Op.equalIn, run_underlying hu]
    · rename_i hu
      split at hq <;> try cases hq
      rename_i a b'
      simp only [AV.den, Op.equalIn, Sem.run_bind, run_underlying hu, Result.andThen_ok, Sem.run_pure]
      rw [beq_toListBytes, ByteArray.toList_eq, ByteArray.toList_eq]
    · rename_i fs hu
      split at hq <;> try cases hq
      rename_i xs ys
      split at hq <;> try cases hq
      rename_i hst
      have hf : P.fieldsOf t = fs := by simp [Program.fieldsOf, hu]
      simp only [AV.den]
      rw [run_equalIn_struct w (m + d) t _ _ (by rw [hf]; exact hu) (by simpa using hst), hf]
      exact eqFieldsA_ok (eqA_ok m d) xs ys _ _ _ hq
    · rename_i n el hu
      split at hq <;> try cases hq
      rename_i xs ys i hi
      simp only [AV.den]
      rw [run_equalIn_array w (m + d) _ _ hu hi]
      have : P.cellsOf el = i.size := by simp [Program.cellsOf, hi]
      rw [this]
      exact eqItemsA_ok (eqA_ok m d) el _ xs ys _ _ _ hq
    · rename_i te hu
      split at hq
      · cases hq; simp [AV.den, Op.equalIn, run_underlying hu]
      · cases hq; simp [AV.den, Op.equalIn, run_underlying hu]
      · cases hq; simp [AV.den, Op.equalIn, run_underlying hu]
      · split at hq <;> try cases hq
        rename_i hh
        obtain ⟨h1, rfl, rfl⟩ := hh
        obtain ⟨j, hj⟩ := Option.isSome_iff_exists.1 h1
        simp [AV.den, Op.equalIn, run_underlying hu, sizeOf, typeInfo, hj, run_sameAddr_same]
      · cases hq
    · rename_i hu
      split at hq <;> try cases hq
      all_goals simp [AV.den, Op.equalIn, run_underlying hu]
    · rename_i hu
      split at hq <;> try cases hq
      all_goals simp [AV.den, Op.equalIn, run_underlying hu]
    · cases hq
end
end Go.Proofs.YtpfoifflfgiaoaaGreatDoor
