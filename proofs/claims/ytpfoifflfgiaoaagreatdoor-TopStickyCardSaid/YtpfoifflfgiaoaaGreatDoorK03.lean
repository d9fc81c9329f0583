/- Package quot: the steps of a division. -/
import Derived.Test.YtpfoifflfgiaoaaGreatDoorK01
import Derived.Deep.Cut
import Derived.Test.YtpfoifflfgiaoaaGreatDoorK02
set_option linter.unusedVariables false
set_option linter.unusedSimpArgs false
namespace Go.Proofs.YtpfoifflfgiaoaaGreatDoor
open Go Go.RowKit

/-! cells stored one by one -/
def putCells (b : Nat) : Nat → List Value → World → World
  | _, [], w => w
  | i, v :: l, w => putCells b (i + 1) l (w.setCell ⟨b, i, none⟩ v)
theorem putCells_size (b : Nat) : ∀ (l : List Value) (i : Nat) (w : World), (putCells b i l w).heap.size = w.heap.size
  | [], _, _ => rfl
  | _ :: l, i, w => by unfold putCells; rw [putCells_size b l, World.size_setCell]
theorem putCells_frozen (b : Nat) (p : Addr) : ∀ (l : List Value) (i : Nat) (w : World), (putCells b i l w).frozen? p = w.frozen? p
  | [], _, _ => rfl
  | _ :: l, i, w => by unfold putCells; rw [putCells_frozen b p l, World.frozen?_setCell]
theorem putCells_other (b : Nat) {b' o : Nat} (h : b ≠ b') : ∀ (l : List Value) (i : Nat) (w : World), (putCells b i l w).cell? ⟨b', o, none⟩ = w.cell? ⟨b', o, none⟩
  | [], _, _ => rfl
  | _ :: l, i, w => by unfold putCells; rw [putCells_other b h l, World.cell?_setCell_other _ _ _ _ (blk_ne h)]
theorem putCells_low (b : Nat) {o : Nat} : ∀ (l : List Value) (i : Nat) (w : World), o < i → (putCells b i l w).cell? ⟨b, o, none⟩ = w.cell? ⟨b, o, none⟩
  | [], _, _, _ => rfl
  | _ :: l, i, w, h => by unfold putCells; rw [putCells_low b l _ _ (by omega), World.cell?_setCell_other _ _ _ _ (off_ne (by omega))]
theorem putCells_cell (b : Nat) : ∀ (l : List Value) (i : Nat) (w : World), (∀ k, k < l.length → ∃ u, w.cell? ⟨b, i + k, none⟩ = some u) → ∀ (k : Nat) (v : Value), l[k]? = some v → (putCells b i l w).cell? ⟨b, i + k, none⟩ = some v
  | [], _, _, _, _, _, h => by cases h
  | x :: l, i, w, hc, k, v, h => by
    unfold putCells
    cases k with
    | zero =>
      obtain ⟨u, hu⟩ := hc 0 (by simp)
      rw [putCells_low b l _ _ (by omega), Nat.add_zero, World.cell?_setCell_same _ _ _ (u := u) (by simpa using hu)]
      simpa using h
    | succ k =>
      have := putCells_cell b l (i + 1) (w.setCell ⟨b, i, none⟩ x) (fun k hk => by
        obtain ⟨u, hu⟩ := hc (k + 1) (by simp; omega)
        refine ⟨u, ?_⟩
        rw [World.cell?_setCell_other _ _ _ _ (off_ne (by omega)), show i + 1 + k = i + (k + 1) by omega]; exact hu) k v (by simpa using h)
      rw [show i + (k + 1) = i + 1 + k by omega]; exact this
theorem Fresh.put {b : Nat} {Z : Array Value} {l : List Value} {w : World} (h : Fresh b Z w) (hs : Z.size = l.length) : Fresh b l.toArray (putCells b 0 l w) :=
  ⟨by rw [putCells_size]; exact h.lt, fun i v hv => by
    have := putCells_cell b l 0 w (fun k hk => ⟨Z[k]'(by omega), by rw [Nat.zero_add]; exact h.cell k _ (Array.getElem?_eq_getElem (by omega))⟩) i v (by simpa using hv)
    rw [Nat.zero_add] at this; exact this, fun i => by rw [putCells_frozen]; exact h.free i⟩
theorem Fresh.putOther {b b' : Nat} {Z : Array Value} {l : List Value} {w : World} (h : Fresh b' Z w) (hne : b ≠ b') : Fresh b' Z (putCells b 0 l w) :=
  ⟨by rw [putCells_size]; exact h.lt, fun i v hv => by rw [putCells_other b hne]; exact h.cell i v hv, fun i => by rw [putCells_frozen]; exact h.free i⟩

inductive PlanG where
  | known (V : Value)
  | num (A : Nat)
  | var (Z : Array Value) (s : Nat) (V : List Value)
  | put (j : Nat)
  | out (b : Nat) (V : List Value)
def anyPut (pl : List PlanG) : Bool := pl.any fun p => match p with | .put _ => true | _ => false
theorem anyPut_no {pl : List PlanG} (h : anyPut pl = false) {i j : Nat} (hi : pl[i]? = some (.put j)) : False := by
  have : anyPut pl = true := List.any_eq_true.2 ⟨_, List.mem_of_getElem? hi, rfl⟩
  rw [h] at this; cases this
def isVarG (pl : List PlanG) (j : Nat) : Bool := match pl[j]? with | some (.var ..) => true | _ => false
/-- the row of number j holds of v in w, the operations of m being done -/
def factG (pl : List PlanG) (B : Nat) (m : Nat → Bool) (j : Nat) (v : Value) (w : World) : Prop := match pl[j]? with
  | some (.known V) => v = V
  | some (.num A) => IsN w v A
  | some (.var Z s V) => ∃ b, v = .pointer (some ⟨b, 0, none⟩) ∧ B ≤ b ∧ Fresh b (if m s = true then V.toArray else Z) w
  | some (.put _) => v = undef
  | some (.out ..) => v = undef
  | none => True
/-- what number i may ask of number j, for which it waits -/
def factD (pl : List PlanG) (B : Nat) (i j : Nat) (v : Value) (w : World) : Prop := match pl[j]? with
  | some (.known V) => v = V
  | some (.num A) => IsN w v A
  | some (.var Z s _) => ∃ b, v = .pointer (some ⟨b, 0, none⟩) ∧ B ≤ b ∧ b < w.heap.size ∧ (i = s → Fresh b Z w)
  | some (.put _) => v = undef
  | some (.out ..) => v = undef
  | none => True
def planVG (pl : List PlanG) (ρ : Nat → Value) (j : Nat) : Value := match pl[j]? with
  | some (.known V) => V
  | some (.put _) => undef
  | some (.out ..) => undef
  | _ => ρ j
theorem planVG_eq {pl : List PlanG} {B : Nat} {m : Nat → Bool} {ρ : Nat → Value} {j : Nat} {w : World} (h : factG pl B m j (ρ j) w) : planVG pl ρ j = ρ j := by
  unfold factG at h
  unfold planVG
  cases hp : pl[j]? with
  | none => rfl
  | some p =>
    rw [hp] at h
    cases p with
    | known V => exact h.symm
    | num A => rfl
    | var Z s V => rfl
    | put k => exact h.symm
    | out b V => exact h.symm
theorem planVG_eqD {pl : List PlanG} {B i : Nat} {ρ : Nat → Value} {j : Nat} {w : World} (h : factD pl B i j (ρ j) w) : planVG pl ρ j = ρ j := by
  unfold factD at h
  unfold planVG
  cases hp : pl[j]? with
  | none => rfl
  | some p =>
    rw [hp] at h
    cases p with
    | known V => exact h.symm
    | num A => rfl
    | var Z s V => rfl
    | put k => exact h.symm
    | out b V => exact h.symm
/-- the rows fit: a variable's store is where it says, and waits for it; beside stores there are no numbers -/
def planOK (md : Region.Mode) (ops : Array Oper) (sx : Nat) (pl : List PlanG) : Bool := (List.range pl.length).all fun j => match pl[j]? with
  | some (.var Z s V) => !(j == sx) && (Z.size == V.length) && (decide (pl.length ≤ s) || (match pl[s]?, ops[s]? with | some (.put k), some o => (k == j) && waitsOn md o j | _, _ => false))
  | some (.put k) => !(j == sx) && (match pl[k]? with | some (.var _ s _) => s == j | _ => false) && pl.all (fun p => match p with | .num _ => false | _ => true)
  | some (.out ..) => (j == sx) && pl.all (fun p => match p with | .num _ => false | _ => true)
  | some (.known _) => !(j == sx)
  | some (.num _) => !(j == sx)
  | none => true
theorem planOK_var {md : Region.Mode} {ops : Array Oper} {sx : Nat} {pl : List PlanG} (h : planOK md ops sx pl = true) {j : Nat} {Z : Array Value} {s : Nat} {V : List Value} (hj : pl[j]? = some (.var Z s V)) :
    Z.size = V.length ∧ (pl.length ≤ s ∨ (pl[s]? = some (.put j) ∧ ∃ o, ops[s]? = some o ∧ waitsOn md o j = true)) := by
  have h1 := List.all_eq_true.1 h j (List.mem_range.2 (List.getElem?_eq_some_iff.1 hj).1)
  rw [hj] at h1
  simp only [Bool.and_eq_true, beq_iff_eq, Bool.or_eq_true, decide_eq_true_eq] at h1
  refine ⟨h1.1.2, h1.2.imp id fun h2 => ?_⟩
  split at h2
  · rename_i k o e1 e2
    simp only [Bool.and_eq_true, beq_iff_eq] at h2
    exact ⟨by rw [e1, h2.1], o, e2, h2.2⟩
  · cases h2
theorem planOK_put {md : Region.Mode} {ops : Array Oper} {sx : Nat} {pl : List PlanG} (h : planOK md ops sx pl = true) {i k : Nat} (hi : pl[i]? = some (.put k)) :
    (∃ Z V, pl[k]? = some (.var Z i V)) ∧ ∀ (j A : Nat), pl[j]? ≠ some (PlanG.num A) := by
  have h1 := List.all_eq_true.1 h i (List.mem_range.2 (List.getElem?_eq_some_iff.1 hi).1)
  rw [hi] at h1
  simp only [Bool.and_eq_true] at h1
  constructor
  · have h2 := h1.1.2
    split at h2
    · rename_i Z s V e
      have : s = i := by simpa using h2
      subst this
      exact ⟨Z, V, e⟩
    · cases h2
  · intro j A hj
    have := List.all_eq_true.1 h1.2 _ (List.mem_of_getElem? hj)
    cases this

theorem planOK_out {md : Region.Mode} {ops : Array Oper} {sx : Nat} {pl : List PlanG} (h : planOK md ops sx pl = true) {i b : Nat} {V : List Value} (hi : pl[i]? = some (.out b V)) : i = sx ∧ ∀ (j A : Nat), pl[j]? ≠ some (PlanG.num A) := by
  have h1 := List.all_eq_true.1 h i (List.mem_range.2 (List.getElem?_eq_some_iff.1 hi).1)
  rw [hi] at h1
  simp only [Bool.and_eq_true, beq_iff_eq] at h1
  refine ⟨h1.1, fun j A hj => ?_⟩
  have := List.all_eq_true.1 h1.2 _ (List.mem_of_getElem? hj)
  cases this
theorem planOK_sx {md : Region.Mode} {ops : Array Oper} {sx : Nat} {pl : List PlanG} (h : planOK md ops sx pl = true) {i : Nat} {p : PlanG} (hi : pl[i]? = some p) (hno : ∀ b V, p ≠ .out b V) : i ≠ sx := by
  have h1 := List.all_eq_true.1 h i (List.mem_range.2 (List.getElem?_eq_some_iff.1 hi).1)
  rw [hi] at h1
  cases p with
  | known V => simpa using h1
  | num A => simpa using h1
  | var Z s V => simp only [Bool.and_eq_true, Bool.not_eq_true', beq_eq_false_iff_ne] at h1; exact h1.1.1
  | put k => simp only [Bool.and_eq_true, Bool.not_eq_true', beq_eq_false_iff_ne] at h1; exact h1.1.1
  | out b V => exact absurd rfl (hno b V)

section
variable {P : Program} {ops : Array Oper} {Q : Exit → Act → World → Prop} {md : Region.Mode} {S S0 S1 : World → Prop} {t0 B sx : Nat} {pl : List PlanG}

def StepG (P : Program) (ops : Array Oper) (pl : List PlanG) (B i : Nat) (o : Oper) (a : Act) (ρ : Nat → Value) (w : World) : Prop := match pl[i]? with
  | some (.known V) => StepR P ops o a w (fun v _ => v = V)
  | some (.num A) => StepR P ops o a w (fun v w' => IsN w' v A)
  | some (.var Z _ _) => Region.wanted o (yielded ops a.tmps) = true ∧ ∃ t, (execOp a.eval o).run P w = .ok (.value (.pointer (some ⟨w.heap.size, 0, none⟩))) (w.alloc (.cells Z t))
  | some (.put j) => Region.wanted o (yielded ops a.tmps) = true ∧ ∀ Z V b, pl[j]? = some (.var Z i V) → ρ j = .pointer (some ⟨b, 0, none⟩) → B ≤ b → Fresh b Z w → (execOp a.eval o).run P w = .ok .skip (putCells b 0 V w)
  | some (.out b V) => Region.wanted o (yielded ops a.tmps) = true ∧ (execOp a.eval o).run P w = .ok .skip (putCells b 0 V w)
  | none => False
/-- what holds ahead of the store into an older block, and behind it -/
def SG (S0 S1 : World → Prop) (sx : Nat) (m : Nat → Bool) (w : World) : Prop := if m sx = true then S1 w else S0 w
/-- number i comes ahead of the store into an older block, in every order -/
def aheadB (md : Region.Mode) (ops : Array Oper) (t0 sx i : Nat) : Bool := decide (t0 ≤ sx) || (i == sx) || (match ops[sx]? with | some o => waitsOn md o i | none => false)

theorem factG_stable {m m' : Nat → Bool} {j : Nat} {v : Value} {w w' : World} (h : factG pl B m j v w) (hb : Below w.heap.size w w') (hm : ∀ Z s V, pl[j]? = some (.var Z s V) → m' s = m s) : factG pl B m' j v w' := by
  unfold factG at *
  cases hp : pl[j]? with
  | none => trivial
  | some p =>
    rw [hp] at h
    cases p with
    | known V => exact h
    | num A => exact IsN.call h hb
    | var Z s V =>
      obtain ⟨b, e, hB, hF⟩ := h
      refine ⟨b, e, hB, ?_⟩
      rw [hm Z s V hp]
      exact Fresh.stable _ _ _ _ hF hb
    | put k => exact h
    | out b V => exact h
theorem putS (HP : ∀ w b i v, B ≤ b → S w → S (w.setCell ⟨b, i, none⟩ v)) {b : Nat} (hb : B ≤ b) : ∀ (l : List Value) (i : Nat) (w : World), S w → S (putCells b i l w)
  | [], _, _, h => h
  | _ :: l, i, w, h => by unfold putCells; exact putS HP hb l _ _ (HP w b i _ hb h)

/-- THE WALK holds of the draw -/
theorem wpG_sound (HS0 : Stable S0) (HS1 : Stable S1) (HO : ∀ b V, pl[sx]? = some (.out b V) → b < B ∧ ∀ w, S0 w → S1 (putCells b 0 V w)) (HP0 : anyPut pl = false ∨ ∀ w b i v, B ≤ b → S0 w → S0 (w.setCell ⟨b, i, none⟩ v)) (HP1 : anyPut pl = false ∨ ∀ w b i v, B ≤ b → S1 w → S1 (w.setCell ⟨b, i, none⟩ v)) (hSB0 : ∀ w, S0 w → B ≤ w.heap.size) (hSB1 : ∀ w, S1 w → B ≤ w.heap.size) (hlen : pl.length = t0) (hpl : planOK md ops sx pl = true)
    (hok : depB md ops t0 = true) (hT : tailB md ops t0 = true) (hsel : Region.noSelect ops = true) (hseq : Region.seqB md ops (ops.size - t0) t0 (headMask ops t0) = true) (ht0 : t0 ≤ ops.size) (a : Act)
    (hob : ∀ i o, ops[i]? = some o → i < t0 → ∀ ρ w, (aheadB md ops t0 sx i = true → S0 w) → (S0 w ∨ S1 w) → (∀ j, j < t0 → waitsOn md o j = true → factD pl B i j (ρ j) w) → StepG P ops pl B i o (layM ops (fun _ => true) ρ i a) ρ w)
    (hend : ∀ ρ w, SG S0 S1 sx (fun k => decide (k < t0)) w → (∀ j, j < t0 → factG pl B (fun k => decide (k < t0)) j (ρ j) w) → (∀ j k, j < t0 → k < t0 → j ≠ k → isVarG pl j = true → isVarG pl k = true → ρ j ≠ ρ k) → wpList P ops Q (ops.toList.drop t0) (layM ops (fun _ => true) ρ t0 a) w) :
    ∀ (f : Nat) (listed : Array Bool) (ρ : Nat → Value) (w : World), HeadInv md ops t0 listed → cntU listed t0 = f → SG S0 S1 sx (fun k => listed.getD k false) w → (∀ j, j < t0 → listed.getD j false = true → factG pl B (fun k => listed.getD k false) j (ρ j) w) →
      (∀ j k, j < t0 → k < t0 → j ≠ k → listed.getD j false = true → listed.getD k false = true → isVarG pl j = true → isVarG pl k = true → ρ j ≠ ρ k) →
      wpAny P md ops Q (f + (ops.size - t0)) listed (layM ops (fun j => listed.getD j false) ρ t0 a) w
  | 0, listed, ρ, w, inv, hc, hS, hf, hdist => by
    have hall := cntU_zero hc
    have hd : (ops.toList.drop t0).length = ops.size - t0 := by simp
    have e : layM ops (fun j => listed.getD j false) ρ t0 a = layM ops (fun _ => true) ρ t0 a := layM_congr t0 a (fun j hj => hall j hj) (fun _ _ _ => rfl)
    rw [e]
    have hm := headMask_eq (t0 := t0) inv.size hall inv.tail
    have hmask : ∀ k, listed.getD k false = decide (k < t0) := fun k => by
      by_cases hk : k < t0
      · rw [hall k hk, decide_eq_true hk]
      · rw [decide_eq_false hk]
        by_cases hk2 : k < ops.size
        · have := inv.tail k (by omega) hk2
          exact getD_both this
        · simp [Array.getElem?_eq_none (show listed.size ≤ k by rw [inv.size]; omega)]
    have := wpAny_of_seq (md := md) (Q' := Q) (ops.toList.drop t0) t0 listed (layM ops (fun _ => true) ρ t0 a) w (fun j => by simp [List.getElem?_drop]) (by rw [hd, hm]; exact hseq)
      (hend ρ w (by rw [show (fun k => decide (k < t0)) = (fun k => listed.getD k false) from funext fun k => (hmask k).symm]; exact hS) (fun j hj => by
        have := hf j hj (hall j hj)
        rw [show (fun k => decide (k < t0)) = (fun k => listed.getD k false) from funext fun k => (hmask k).symm]; exact this) (fun j k hj hk hne => hdist j k hj hk hne (hall j hj) (hall k hk)))
    rw [hd] at this
    rw [Nat.zero_add]; exact this
  | f + 1, listed, ρ, w, inv, hc, hS, hf, hdist => by
    obtain ⟨i0, hi0, hun0, hbelow⟩ := cntU_pos (listed := listed) (n := t0) (by omega)
    have hsz := inv.size
    have hun0t : listed.getD i0 true = false := getD_in (by omega) hun0
    rw [show f + 1 + (ops.size - t0) = (f + (ops.size - t0)) + 1 by omega]
    refine ⟨fun h0 => ?_, fun i hi => ?_⟩
    · exfalso
      obtain ⟨o, ho, hd, _⟩ := depB_spec hok hi0
      have : i0 ∈ Region.ready md ops listed := mem_ready.2 ⟨hun0t, o, ho, fun e he hb => hbelow e.on (hd e he hb)⟩
      rw [h0] at this; cases this
    · have hit := ready_lt hT inv hi0 hun0t hi
      obtain ⟨hun, o, ho, hall⟩ := mem_ready.1 hi
      have hunf : listed.getD i false = false := getD_both hun
      obtain ⟨o', ho', hlow, hdep⟩ := depB_spec hok hit
      have : o' = o := Option.some.inj (ho'.symm.trans ho)
      subst this
      have hs := Region.noSelect_spec hsel i o'
      have slots : ∀ t ∈ o'.looksAt ops, (layM ops (fun j => listed.getD j false) ρ t0 a).tmps[t]? = (layM ops (fun _ => true) ρ i a).tmps[t]? := fun t ht => by
        have e1 : layM ops (fun _ => true) ρ i a = layM ops (fun j => decide (j < i)) ρ i a := layM_congr i a (fun j hj => (decide_eq_true hj).symm) (fun _ _ _ => rfl)
        have ext : ∀ n, i ≤ n → layM ops (fun j => decide (j < i)) ρ n a = layM ops (fun j => decide (j < i)) ρ i a := by
          intro n hn
          induction n with
          | zero => rw [show i = 0 by omega]
          | succ n ih =>
            by_cases h : i = n + 1
            · rw [h]
            · conv => lhs; unfold layM
              rw [if_neg (by rw [decide_eq_false (by omega)]; decide)]
              exact ih (by omega)
        rw [e1, ← ext t0 (by omega)]
        refine layM_slot t t0 a fun j oj hj hoj hd => ?_
        obtain ⟨oj', hoj', h5⟩ := hdep j hj
        have : oj' = oj := Option.some.inj (hoj'.symm.trans hoj)
        subst this
        have hw := (h5 t hd).1 ht
        obtain ⟨e, he, hb, hon⟩ := waitsOn_spec hw
        have h6 := hall e he hb
        have h7 := hlow e he hb
        rw [hon] at h6 h7
        rw [h6, decide_eq_true h7]
      have hahead : aheadB md ops t0 sx i = true → listed.getD sx false = false := fun h => by
        unfold aheadB at h
        simp only [Bool.or_eq_true, decide_eq_true_eq, beq_iff_eq] at h
        rcases h with (h | h) | h
        · by_cases h3 : sx < ops.size
          · exact getD_both (inv.tail sx h h3)
          · simp [Array.getElem?_eq_none (show listed.size ≤ sx by rw [inv.size]; omega)]
        · rw [← h]; exact hunf
        · split at h
          · rename_i os hos
            cases hls : listed.getD sx false with
            | false => rfl
            | true =>
              obtain ⟨e, he, hbd, hon⟩ := waitsOn_spec h
              have := inv.closed sx os hos hls e he hbd
              rw [hon, hunf] at this; cases this
          · cases h
      have hSm := hS
      have hor : S0 w ∨ S1 w := by
        unfold SG at hS
        split at hS
        · exact .inr hS
        · exact .inl hS
      have hstep := hob i o' ho hit ρ w (fun h => by unfold SG at hS; rw [if_neg (by show ¬ listed.getD sx false = true; rw [hahead h]; decide)] at hS; exact hS) hor fun j hj hw => by
        obtain ⟨e, he, hb, hon⟩ := waitsOn_spec hw
        have h6 := hall e he hb
        rw [hon] at h6
        have h8 := hf j hj h6
        unfold factG at h8
        unfold factD
        cases hp : pl[j]? with
        | none => trivial
        | some p =>
          rw [hp] at h8
          cases p with
          | known V => exact h8
          | num A => exact h8
          | var Z s V =>
            obtain ⟨b, e1, e2, e3⟩ := h8
            refine ⟨b, e1, e2, e3.lt, fun h9 => ?_⟩
            subst h9
            rw [if_neg (by show ¬ listed.getD i false = true; rw [hunf]; decide)] at e3
            exact e3
          | put k => exact h8
          | out b V => exact h8
      have ex := exec_slots (fun cs b => hs cs b ho) slots
      have wn := wanted_slots slots
      have inv' := inv.set hi hit
      have hc' : cntU (listed.setIfInBounds i true) t0 = f := by
        have := cntU_set (listed := listed) (i := i) (by omega) hunf t0
        rw [if_pos hit] at this; omega
      have hset : ∀ k, k ≠ i → (listed.setIfInBounds i true).getD k false = listed.getD k false := fun k hk => getD_set_ne false (fun h2 => hk h2.symm)
      have hseti : (listed.setIfInBounds i true).getD i false = true := by simp [show i < listed.size by omega]
      have hupd : ∀ (v : Value) k, k ≠ i → updR ρ i v k = ρ k := fun v k hk => by unfold updR; rw [if_neg hk]
      have hupdi : ∀ v : Value, updR ρ i v i = v := fun v => by unfold updR; rw [if_pos rfl]
      -- the walk goes on behind number i
      have go : ∀ (v : Value) (w' : World), SG S0 S1 sx (fun k => (listed.setIfInBounds i true).getD k false) w' → factG pl B (fun k => (listed.setIfInBounds i true).getD k false) i v w' →
          (∀ j, j < t0 → j ≠ i → listed.getD j false = true → factG pl B (fun k => (listed.setIfInBounds i true).getD k false) j (ρ j) w') →
          (isVarG pl i = true → ∀ j, j < t0 → j ≠ i → listed.getD j false = true → isVarG pl j = true → v ≠ ρ j) →
          wpAny P md ops Q (f + (ops.size - t0)) (listed.setIfInBounds i true) ((layM ops (fun j => listed.getD j false) ρ t0 a).put o'.dst v) w' := fun v w' hS' hFi hFj hD => by
        rw [layM_put hok ho hit (m := fun j => listed.getD j false) hunf v t0 a hit (Nat.le_refl _)]
        have e2 : layM ops (fun k => decide (k = i) || listed.getD k false) (updR ρ i v) t0 a = layM ops (fun j => (listed.setIfInBounds i true).getD j false) (updR ρ i v) t0 a :=
          layM_congr t0 a (fun j hj => by
            by_cases h : j = i
            · subst h; rw [hseti]; simp
            · rw [hset j h, decide_eq_false h]; rfl) (fun _ _ _ => rfl)
        rw [e2]
        refine wpG_sound HS0 HS1 HO HP0 HP1 hSB0 hSB1 hlen hpl hok hT hsel hseq ht0 a hob hend f _ (updR ρ i v) w' inv' hc' hS' (fun j hj hl => ?_) (fun j k hj hk hne hlj hlk hvj hvk => ?_)
        · by_cases h : j = i
          · subst h; rw [hupdi]; exact hFi
          · rw [hset j h] at hl
            rw [hupd v j h]; exact hFj j hj h hl
        · by_cases h1 : j = i
          · subst h1
            have h2 : k ≠ j := fun h => hne h.symm
            rw [hset k h2] at hlk
            rw [hupdi, hupd v k h2]
            exact hD hvj k hk h2 hlk hvk
          · rw [hset j h1] at hlj
            rw [hupd v j h1]
            by_cases h2 : k = i
            · subst h2
              rw [hupdi]
              exact fun h => hD hvk j hj h1 hlj hvj h.symm
            · rw [hset k h2] at hlk
              rw [hupd v k h2]
              exact hdist j k hj hk hne hlj hlk hvj hvk
      have hSB : B ≤ w.heap.size := by
        unfold SG at hS; split at hS
        · exact hSB1 w hS
        · exact hSB0 w hS
      have sstay : i ≠ sx → ∀ w', Below w.heap.size w w' → SG S0 S1 sx (fun k => (listed.setIfInBounds i true).getD k false) w' := fun hne w' hb => by
        unfold SG at hS ⊢
        simp only [hset sx (fun h => hne h.symm)]
        split at hS
        · rename_i h; rw [if_pos h]; exact HS1 w w' hS hb
        · rename_i h; rw [if_neg h]; exact HS0 w w' hS hb
      -- what is done stays, if number i is no store
      have stay : (∀ k, pl[i]? ≠ some (.put k)) → ∀ w', Below w.heap.size w w' → ∀ j, j < t0 → j ≠ i → listed.getD j false = true → factG pl B (fun k => (listed.setIfInBounds i true).getD k false) j (ρ j) w' := fun hno w' hb j hj hne hl =>
        factG_stable (hf j hj hl) hb fun Z s V hp => by
          refine hset s fun h => ?_
          subst h
          rcases (planOK_var hpl hp).2 with h2 | ⟨h2, _⟩
          · omega
          · exact hno j h2
      unfold StepG at hstep
      cases hp : pl[i]? with
      | none => rw [hp] at hstep; exact hstep.elim
      | some p =>
        rw [hp] at hstep
        cases p with
        | known V =>
          refine StepR.wpOp ho (by unfold StepR at hstep ⊢; rw [ex, wn]; exact hstep) fun v w' hFv hb => ?_
          exact go v w' (sstay (planOK_sx hpl hp (fun _ _ h => by cases h)) w' hb) (by unfold factG; rw [hp]; exact hFv) (stay (fun k h => by rw [hp] at h; cases h) w' hb) (fun h => by unfold isVarG at h; rw [hp] at h; cases h)
        | num A =>
          refine StepR.wpOp ho (by unfold StepR at hstep ⊢; rw [ex, wn]; exact hstep) fun v w' hFv hb => ?_
          exact go v w' (sstay (planOK_sx hpl hp (fun _ _ h => by cases h)) w' hb) (by unfold factG; rw [hp]; exact hFv) (stay (fun k h => by rw [hp] at h; cases h) w' hb) (fun h => by unfold isVarG at h; rw [hp] at h; cases h)
        | var Z s V =>
          obtain ⟨hw, t, hr⟩ := hstep
          unfold Go.wpOp
          rw [← wn] at hw
          rw [← ex] at hr
          simp only [ho, hw, if_true, Oper.wp, hr]
          have hb : Below w.heap.size w (w.alloc (.cells Z t)) := (Below.refl _ _).alloc (Nat.le_refl _) _
          refine .inl (go _ _ (sstay (planOK_sx hpl hp (fun _ _ h => by cases h)) _ hb) ?_ (stay (fun k h => by rw [hp] at h; cases h) _ hb) fun _ j hj hne hl hv => ?_)
          · unfold factG
            rw [hp]
            refine ⟨w.heap.size, rfl, hSB, ?_⟩
            have hsne : s ≠ i := fun h => by
              subst h
              rcases (planOK_var hpl hp).2 with h2 | ⟨h2, _⟩
              · omega
              · rw [hp] at h2; cases h2
            have hms : listed.getD s false = false := by
              rcases (planOK_var hpl hp).2 with h2 | ⟨h2, os, hos, hws⟩
              · by_cases h3 : s < ops.size
                · exact getD_both (inv.tail s (by omega) h3)
                · simp [Array.getElem?_eq_none (show listed.size ≤ s by rw [inv.size]; omega)]
              · cases hls : listed.getD s false with
                | false => rfl
                | true =>
                  obtain ⟨e, he, hbd, hon⟩ := waitsOn_spec hws
                  have := inv.closed s os hos hls e he hbd
                  rw [hon, hunf] at this; cases this
            simp only [hset s hsne, hms, Bool.false_eq_true, if_false]
            exact Fresh.new w Z t
          · have h8 := hf j hj hl
            unfold factG at h8
            unfold isVarG at hv
            intro heq
            split at hv
            · rename_i Z' s' V' hpj
              rw [hpj] at h8
              obtain ⟨b, e1, _, e3⟩ := h8
              rw [e1] at heq
              injection heq with heq
              injection heq with heq
              injection heq with heq
              have := e3.lt
              omega
            · cases hv
        | put j =>
          obtain ⟨hw, hr⟩ := hstep
          obtain ⟨⟨Z, V, hpj⟩, hnn⟩ := planOK_put hpl hp
          have hvar := planOK_var hpl hpj
          have hjt : j < t0 := by rw [← hlen]; exact (List.getElem?_eq_some_iff.1 hpj).1
          have hwait : waitsOn md o' j = true := by
            rcases hvar.2 with h2 | ⟨_, os, hos, hws⟩
            · omega
            · have : os = o' := Option.some.inj (hos.symm.trans ho)
              subst this; exact hws
          have hlj : listed.getD j false = true := by
            obtain ⟨e, he, hb, hon⟩ := waitsOn_spec hwait
            have h6 := hall e he hb
            rw [hon] at h6; exact h6
          have h8 := hf j hjt hlj
          unfold factG at h8
          rw [hpj] at h8
          obtain ⟨b, e1, e2, e3⟩ := h8
          rw [if_neg (by show ¬ listed.getD i false = true; rw [hunf]; decide)] at e3
          have hrun := hr Z V b hpj e1 e2 e3
          unfold Go.wpOp
          rw [← wn] at hw
          rw [← ex] at hrun
          simp only [ho, hw, if_true, Oper.wp, hrun]
          refine .inl (go undef _ (by
            have hne := planOK_sx hpl hp (fun _ _ h => by cases h)
            unfold SG at hS ⊢
            simp only [hset sx (fun h => hne h.symm)]
            split at hS
            · rename_i h; rw [if_pos h]; exact putS (HP1.resolve_left fun h => anyPut_no h hp) e2 V 0 w hS
            · rename_i h; rw [if_neg h]; exact putS (HP0.resolve_left fun h => anyPut_no h hp) e2 V 0 w hS) (by unfold factG; rw [hp]) (fun k hk hne hl => ?_) (fun h => by unfold isVarG at h; rw [hp] at h; cases h))
          have h9 := hf k hk hl
          unfold factG at h9 ⊢
          cases hpk : pl[k]? with
          | none => trivial
          | some q =>
            rw [hpk] at h9
            cases q with
            | known V => exact h9
            | num A => exact absurd hpk (hnn k A)
            | put _ => exact h9
            | out _ _ => exact h9
            | var Z' s' V' =>
              obtain ⟨b', f1, f2, f3⟩ := h9
              refine ⟨b', f1, f2, ?_⟩
              by_cases hkj : k = j
              · subst hkj
                rw [hpj] at hpk
                injection hpk with hpk
                injection hpk with q1 q2 q3
                subst q1; subst q2; subst q3
                have hbb : b' = b := by
                  rw [e1] at f1
                  injection f1 with f1
                  injection f1 with f1
                  injection f1 with f1
                  exact f1.symm
                subst hbb
                simp only [hseti, if_true]
                exact e3.put hvar.1
              · have hs' : s' ≠ i := fun h => by
                  subst h
                  rcases (planOK_var hpl hpk).2 with h2 | ⟨h2, _⟩
                  · omega
                  · rw [hp] at h2
                    injection h2 with h2
                    injection h2 with h2
                    exact hkj h2.symm
                simp only [hset s' hs']
                refine f3.putOther fun h => ?_
                refine hdist k j hk hjt hkj hl hlj (by unfold isVarG; rw [hpk]) (by unfold isVarG; rw [hpj]) ?_
                rw [f1, e1, h]
        | out b V =>
          obtain ⟨hw, hr⟩ := hstep
          obtain ⟨hisx, hnn⟩ := planOK_out hpl hp
          subst hisx
          obtain ⟨hbB, hO⟩ := HO b V hp
          unfold Go.wpOp
          rw [← wn] at hw
          rw [← ex] at hr
          simp only [ho, hw, if_true, Oper.wp, hr]
          refine .inl (go undef _ (by
            unfold SG at hS ⊢
            simp only [hseti, if_true]
            rw [if_neg (by show ¬ listed.getD i false = true; rw [hunf]; decide)] at hS
            exact hO w hS) (by unfold factG; rw [hp]) (fun k hk hne hl => ?_) (fun h => by unfold isVarG at h; rw [hp] at h; cases h))
          have h9 := hf k hk hl
          unfold factG at h9 ⊢
          cases hpk : pl[k]? with
          | none => trivial
          | some q =>
            rw [hpk] at h9
            cases q with
            | known V => exact h9
            | num A => exact absurd hpk (hnn k A)
            | put _ => exact h9
            | out _ _ => exact h9
            | var Z' s' V' =>
              obtain ⟨b', f1, f2, f3⟩ := h9
              refine ⟨b', f1, f2, ?_⟩
              have hs' : s' ≠ i := fun h => by
                subst h
                rcases (planOK_var hpl hpk).2 with h2 | ⟨h2, _⟩
                · omega
                · rw [hp] at h2; cases h2
              simp only [hset s' hs']
              exact f3.putOther (by omega)

/-- the walk, in the order of the text: number k, and those behind it; known values stand in the frame -/
def wpHG (P : Program) (md : Region.Mode) (ops : Array Oper) (S0 S1 : World → Prop) (sx t0 B : Nat) (pl : List PlanG) (ρ : Nat → Value) (L : Act → World → Prop) : Nat → List Oper → Act → Prop
  | _, [], a => ∀ w, SG S0 S1 sx (fun k => decide (k < t0)) w → (∀ j, j < t0 → factG pl B (fun k => decide (k < t0)) j (ρ j) w) → (∀ j k, j < t0 → k < t0 → j ≠ k → isVarG pl j = true → isVarG pl k = true → ρ j ≠ ρ k) → L a w
  | k, o :: rest, a => (∀ w, (aheadB md ops t0 sx k = true → S0 w) → (S0 w ∨ S1 w) → (∀ j, j < t0 → waitsOn md o j = true → factD pl B k j (ρ j) w) → StepG P ops pl B k o a ρ w) ∧ wpHG P md ops S0 S1 sx t0 B pl ρ L (k + 1) rest (a.put o.dst (planVG pl ρ k))
theorem wpHG_spec {ρ : Nat → Value} {L : Act → World → Prop} : ∀ (l : List Oper) (k : Nat) (a0 : Act), (∀ j, j < l.length → l[j]? = ops[k + j]?) → k + l.length = t0 →
    wpHG P md ops S0 S1 sx t0 B pl ρ L k l (layM ops (fun _ => true) (planVG pl ρ) k a0) →
      (∀ i o, ops[i]? = some o → k ≤ i → i < t0 → ∀ w, (aheadB md ops t0 sx i = true → S0 w) → (S0 w ∨ S1 w) → (∀ j, j < t0 → waitsOn md o j = true → factD pl B i j (ρ j) w) → StepG P ops pl B i o (layM ops (fun _ => true) (planVG pl ρ) i a0) ρ w) ∧
      (∀ w, SG S0 S1 sx (fun k => decide (k < t0)) w → (∀ j, j < t0 → factG pl B (fun k => decide (k < t0)) j (ρ j) w) → (∀ j k, j < t0 → k < t0 → j ≠ k → isVarG pl j = true → isVarG pl k = true → ρ j ≠ ρ k) → L (layM ops (fun _ => true) (planVG pl ρ) t0 a0) w)
  | [], k, a0, _, hk, h => by
    have : k = t0 := by simpa using hk
    subst this
    exact ⟨fun i o _ h1 h2 => by omega, h⟩
  | o :: l, k, a0, hl, hk, h => by
    have h0 : ops[k]? = some o := by simpa using (hl 0 (by simp)).symm
    have hl' : ∀ j, j < l.length → l[j]? = ops[k + 1 + j]? := fun j hj => by have := hl (j + 1) (by simp; omega); simpa [Nat.add_assoc, Nat.add_comm 1 j] using this
    simp only [List.length_cons] at hk
    have e : (layM ops (fun _ => true) (planVG pl ρ) k a0).put o.dst (planVG pl ρ k) = layM ops (fun _ => true) (planVG pl ρ) (k + 1) a0 := by
      conv => rhs; unfold layM
      simp [h0]
    obtain ⟨h1, h2⟩ := h
    rw [e] at h2
    obtain ⟨h3, h4⟩ := wpHG_spec l (k + 1) a0 hl' (by omega) h2
    refine ⟨fun i oi hi hki hit => ?_, h4⟩
    by_cases e2 : i = k
    · subst e2
      have : oi = o := Option.some.inj (hi.symm.trans h0)
      subst this
      exact h1
    · exact h3 i oi hi (by omega) hit

theorem g_any {a : Act} {w : World} {l : List Oper} (t0 : Nat) (S0 S1 : World → Prop) (sx B : Nat) (pl : List PlanG) (hB : (uniRB l.toArray t0 && planOK .any l.toArray sx pl && (pl.length == t0)) = true) (HS0 : Stable S0) (HS1 : Stable S1) (HO : ∀ b V, pl[sx]? = some (.out b V) → b < B ∧ ∀ w, S0 w → S1 (putCells b 0 V w)) (HP0 : anyPut pl = false ∨ ∀ w b i v, B ≤ b → S0 w → S0 (w.setCell ⟨b, i, none⟩ v)) (HP1 : anyPut pl = false ∨ ∀ w b i v, B ≤ b → S1 w → S1 (w.setCell ⟨b, i, none⟩ v)) (hSB0 : ∀ w, S0 w → B ≤ w.heap.size) (hSB1 : ∀ w, S1 w → B ≤ w.heap.size) (hS : S0 w)
    (h : ∀ ρ, wpHG P .any l.toArray S0 S1 sx t0 B pl ρ (wpList P l.toArray Q (l.drop t0)) 0 (l.take t0) a) : wpAny P .any l.toArray Q l.toArray.size (Array.replicate l.toArray.size false) a w := by
  simp only [uniRB, Bool.and_eq_true, decide_eq_true_eq, beq_iff_eq] at hB
  obtain ⟨⟨⟨⟨⟨⟨hsel, ht0⟩, hT⟩, hok⟩, hseq⟩, hpl⟩, hlen⟩ := hB
  have htl : (l.take t0).length = t0 := by simp at ht0 ⊢; omega
  have inv0 : HeadInv .any l.toArray t0 (Array.replicate l.toArray.size false) :=
    ⟨by simp, fun j oj _ hl => (by rw [getD_replicate_false] at hl; cases hl), fun t _ ht => getD_in (by simpa using ht) (getD_replicate_false _ _)⟩
  have spec := fun ρ => wpHG_spec (P := P) (md := .any) (ops := l.toArray) (S0 := S0) (S1 := S1) (sx := sx) (t0 := t0) (B := B) (pl := pl) (ρ := ρ) (L := wpList P l.toArray Q (l.drop t0)) (l.take t0) 0 a (fun j hj => by
    have hj' : j < t0 := by rw [htl] at hj; exact hj
    simp [hj']) (by omega) (h ρ)
  have := wpG_sound (P := P) (Q := Q) (md := .any) (S0 := S0) (S1 := S1) (sx := sx) (B := B) (pl := pl) (t0 := t0) HS0 HS1 HO HP0 HP1 hSB0 hSB1 hlen hpl hok hT hsel hseq ht0 a
    (fun i o hi hit ρ w hS' hor_ hd => by
      have h1 := (spec ρ).1 i o hi (by omega) hit w hS' hor_ hd
      obtain ⟨o', ho', hlow, hdep⟩ := depB_spec hok hit
      have : o' = o := Option.some.inj (ho'.symm.trans hi)
      subst this
      have slots : ∀ t ∈ o'.looksAt l.toArray, (layM l.toArray (fun _ => true) (planVG pl ρ) i a).tmps[t]? = (layM l.toArray (fun _ => true) ρ i a).tmps[t]? := fun t ht =>
        layM_slot2 t i a fun j oj hj hoj hd2 => by
          obtain ⟨oj', hoj', h5⟩ := hdep j (by omega)
          have : oj' = oj := Option.some.inj (hoj'.symm.trans hoj)
          subst this
          exact planVG_eqD (hd j (by omega) ((h5 t hd2).1 ht))
      have ex := exec_slots (fun cs b => Region.noSelect_spec hsel i o' cs b hi) slots
      have wn := wanted_slots slots
      unfold StepG StepR at h1 ⊢
      rw [← ex, ← wn]
      exact h1)
    (fun ρ w hS' hf hdist => by
      have h1 := (spec ρ).2 w hS' hf hdist
      rw [layM_congr t0 a (fun _ _ => rfl) (fun j hj _ => planVG_eq (hf j hj))] at h1
      exact h1)
    t0 (Array.replicate l.toArray.size false) (fun _ => undef) w inv0 (cntU_all t0) (by unfold SG; rw [if_neg (by show ¬ (Array.replicate l.toArray.size false).getD sx false = true; rw [getD_replicate_false]; decide)]; exact hS) (fun j hj hl => by rw [getD_replicate_false] at hl; cases hl) (fun j k _ _ _ hl => by rw [getD_replicate_false] at hl; cases hl)
  rw [layM_none t0 a (fun j _ => getD_replicate_false _ _), show t0 + (l.toArray.size - t0) = l.toArray.size by omega] at this
  exact this
/-- THE REGION, anywhere -/
theorem wp_region_g {id : Nat} {a : Act} {w : World} {l : List Oper} (t0 : Nat) (S0 S1 : World → Prop) (sx B : Nat) (pl : List PlanG) (hm : P.follows .mixedOrders = true) (hB : (uniRB l.toArray t0 && planOK .any l.toArray sx pl && (pl.length == t0)) = true) (HS0 : Stable S0) (HS1 : Stable S1) (HO : ∀ b V, pl[sx]? = some (.out b V) → b < B ∧ ∀ w, S0 w → S1 (putCells b 0 V w)) (HP0 : anyPut pl = false ∨ ∀ w b i v, B ≤ b → S0 w → S0 (w.setCell ⟨b, i, none⟩ v)) (HP1 : anyPut pl = false ∨ ∀ w b i v, B ≤ b → S1 w → S1 (w.setCell ⟨b, i, none⟩ v)) (hSB0 : ∀ w, S0 w → B ≤ w.heap.size) (hSB1 : ∀ w, S1 w → B ≤ w.heap.size) (hS : S0 w.drew)
    (h : ∀ ρ, wpHG P .any l.toArray S0 S1 sx t0 B pl ρ (wpList P l.toArray Q (l.drop t0)) 0 (l.take t0) a) : (Code.region id l.toArray true).wp P Q a w :=
  wp_region_any hm (g_any t0 S0 S1 sx B pl hB HS0 HS1 HO HP0 HP1 hSB0 hSB1 hS h)
/-- THE REGION, in a round -/
theorem round_region_g {l0 n : Nat} {id : Nat} {a : Act} {w : World} {l : List Oper} (t0 : Nat) (S0 S1 : World → Prop) (sx B : Nat) (pl : List PlanG) (hLQ : ¬ LetsOut Q) (hnd : noDefer l.toArray = true) (hm : P.follows .mixedOrders = true) (hB : (uniRB l.toArray t0 && planOK .any l.toArray sx pl && (pl.length == t0)) = true) (HS0 : Stable S0) (HS1 : Stable S1) (HO : ∀ b V, pl[sx]? = some (.out b V) → b < B ∧ ∀ w, S0 w → S1 (putCells b 0 V w)) (HP0 : anyPut pl = false ∨ ∀ w b i v, B ≤ b → S0 w → S0 (w.setCell ⟨b, i, none⟩ v)) (HP1 : anyPut pl = false ∨ ∀ w b i v, B ≤ b → S1 w → S1 (w.setCell ⟨b, i, none⟩ v)) (hSB0 : ∀ w, S0 w → B ≤ w.heap.size) (hSB1 : ∀ w, S1 w → B ≤ w.heap.size) (hS : S0 w.drew)
    (h : ∀ ρ, wpHG P .any l.toArray S0 S1 sx t0 B pl ρ (wpList P l.toArray Q (l.drop t0)) 0 (l.take t0) a) : (Code.region id l.toArray true).wpIn (Fence.wide.inRound l0) n P Q a w :=
  wpIn_region_any hm (wpAny_round hnd hLQ _ _ _ _ (g_any t0 S0 S1 sx B pl hB HS0 HS1 HO HP0 HP1 hSB0 hSB1 hS h))

theorem no_out {X : Nat → List Value → Prop} (h : pl.length ≤ sx) : ∀ b V, pl[sx]? = some (.out b V) → X b V := fun b V e => by rw [List.getElem?_eq_none h] at e; cases e
theorem sg_no {w : World} (h : t0 ≤ sx) (hS : SG S0 S1 sx (fun k => decide (k < t0)) w) : S0 w := by
  unfold SG at hS
  rw [if_neg (by simp only [decide_eq_true_eq]; omega)] at hS; exact hS
theorem sg_yes {w : World} (h : sx < t0) (hS : SG S0 S1 sx (fun k => decide (k < t0)) w) : S1 w := by
  unfold SG at hS
  rw [if_pos (by simp only [decide_eq_true_eq]; exact h)] at hS; exact hS

/-! one operation -/
variable {o : Oper} {a : Act} {w : World} {k : Nat} {ρ : Nat → Value}
theorem s_val {V : Value} (hp : pl[k]? = some (.known V)) (hw : Region.wanted o (yielded ops a.tmps) = true) (hy : (execOp a.eval o).run P w = .ok (.value V) w) : StepG P ops pl B k o a ρ w := by
  unfold StepG; rw [hp]; exact .inl ⟨hw, .inl ⟨V, w, hy, rfl, Below.refl _ _⟩⟩
theorem s_call {V : Value} (f : FuncId) (args : Array Value) (hp : pl[k]? = some (.known V)) (hw : Region.wanted o (yielded ops a.tmps) = true) (hy : (execOp a.eval o).run P w = .ok (.enter f args) w)
    (hc : Calls P f args w fun e w' => e = .returned V ∧ Below w.heap.size w w') : StepG P ops pl B k o a ρ w := by
  unfold StepG; rw [hp]; exact .inl ⟨hw, .inr ⟨f, args, hy, hc.mono fun e w' ⟨he, hb⟩ => ⟨V, he, rfl, hb⟩⟩⟩
theorem s_out {b : Nat} {V : List Value} (hp : pl[k]? = some (.out b V)) (hw : Region.wanted o (yielded ops a.tmps) = true) (hy : (execOp a.eval o).run P w = .ok .skip (putCells b 0 V w)) : StepG P ops pl B k o a ρ w := by
  unfold StepG; rw [hp]; exact ⟨hw, hy⟩
end
end Go.Proofs.YtpfoifflfgiaoaaGreatDoor
namespace Go.Proofs.YtpfoifflfgiaoaaGreatDoor
open Go.RowKit

/-- twice the rest, and the bit, in 128 bits -/
def twN (r b : Nat) : Nat := add128 r r + b
theorem twN_w {r b : Nat} (hb : b ≤ 1) : W128 (twN r b) := ⟨by unfold twN add128; omega⟩
theorem tw_limb0 {r b : Nat} (hb : b ≤ 1) : bits .or .u64 (limb 0 (add128 r r)) (b : Int) = limb 0 (twN r b) := by
  rw [or_u64 (limb_u64 _ _) ⟨by omega, by omega⟩]
  have e : add128 r r % 2 = 0 := by unfold add128; omega
  generalize hX : add128 r r = X at *
  unfold twN limb
  rw [hX, Int.toNat_natCast, Int.toNat_natCast, Nat.mul_zero, Nat.pow_zero, Nat.div_one, Nat.div_one]
  have h2 : X % 2 ^ 64 = 2 ^ 1 * (X % 2 ^ 64 / 2) := by omega
  rw [h2, ← Nat.two_pow_add_eq_or_of_lt (by omega : b < 2 ^ 1)]
  omega
theorem tw_limb1 {r b : Nat} (hb : b ≤ 1) : limb 1 (add128 r r) = limb 1 (twN r b) := by
  have e : add128 r r % 2 = 0 := by unfold add128; omega
  generalize hX : add128 r r = X at *
  unfold twN limb
  rw [hX]; omega
theorem next_carry {r b d : Nat} (hd : W128 d) (hr : r < d) (hb : b ≤ 1) (h : carry128 r r = true) : sub128 (twN r b) d = nextN r b d ∧ onceB r b d = true := by
  have := hd.lt
  have h1 := of_decide_eq_true h
  unfold onceB nextN
  have h2 : onceB r b d = true := decide_eq_true (by omega)
  rw [if_pos h2]
  refine ⟨?_, decide_eq_true (by omega)⟩
  unfold sub128 twN add128; omega
theorem next_over {r b d : Nat} (hd : W128 d) (hr : r < d) (hb : b ≤ 1) (h : carry128 r r = false) (h3 : ltB (twN r b) d = false) : sub128 (twN r b) d = nextN r b d ∧ onceB r b d = true := by
  have := hd.lt
  have h1 := of_decide_eq_false h
  have h4 := of_decide_eq_false h3
  have e : twN r b = 2 * r + b := by unfold twN add128; omega
  unfold nextN
  have h2 : onceB r b d = true := decide_eq_true (by omega)
  rw [if_pos h2]
  exact ⟨by unfold sub128; omega, h2⟩
theorem next_no {r b d : Nat} (hd : W128 d) (hr : r < d) (hb : b ≤ 1) (h : carry128 r r = false) (h3 : ltB (twN r b) d = true) : twN r b = nextN r b d ∧ onceB r b d = false := by
  have := hd.lt
  have h1 := of_decide_eq_false h
  have h4 := of_decide_eq_true h3
  have e : twN r b = 2 * r + b := by unfold twN add128; omega
  unfold nextN
  have h2 : onceB r b d = false := decide_eq_false (by omega)
  rw [if_neg (by rw [h2]; decide)]
  exact ⟨e, h2⟩

set_option maxRecDepth 100000 in
set_option maxHeartbeats 8000000 in
theorem next_w1 {r b d : Nat} (hw : W128 r) (hd : W128 d) (hb : b ≤ 1) (c1 : carry128 r r = true) (w : World) :
    Calls Tryz.prog 167 #[bitsV r, .int .u64 (b : Int), bitsV d] w fun e w' => e = .returned (.tuple #[bitsV (sub128 (twN r b) d), .bool true]) ∧ Below w.heap.size w w' := by
  have hk := Kept.refl w
  have f1 := tw_limb0 (r := r) hb
  have f2 := tw_limb1 (r := r) hb
  have hT := twN_w (r := r) hb
  have hI : IsBits (limb 1 (add128 r r)) (limb 0 (twN r b)) (twN r b) := by rw [f2]; exact IsBits.of hT
  clear f2
  go_enter Tryz.func167, Tryz.ntmps167
  go_wp2_with fail
  (with_reducible refine (Add_at (IsBits.of hw) (IsBits.of hw) _).mono ?_)
  rintro e w1 ⟨rfl, hb⟩
  have X2' : Box w1 (w.heap.size + 1) #[.int .u64 (limb 1 d), .int .u64 (limb 0 d)] := Box.call hb (by repeat (first | with_reducible assumption | with_reducible apply Box.set10 | with_reducible apply Box.set20 | with_reducible apply Box.set21 | with_reducible apply Box.set40 | with_reducible apply Box.set41 | with_reducible apply Box.set42 | with_reducible apply Box.set43 | with_reducible apply Box.set50 | with_reducible apply Box.set51 | with_reducible apply Box.set52 | with_reducible apply Box.set53 | with_reducible apply Box.set54 | with_reducible apply Box.drew | (with_reducible apply Box.newAt; (try simp only [World.size_alloc, World.size_setCell, World.size_drew]); done) | with_reducible apply Box.alloc | (with_reducible apply Box.other; case hne => ((try simp only [World.size_alloc, World.size_setCell, World.size_drew]); omega))))
  have X3' : Box w1 (w.heap.size + 1 + 1) #[.int .u64 0, .int .u64 0] := Box.call hb (by repeat (first | with_reducible assumption | with_reducible apply Box.set10 | with_reducible apply Box.set20 | with_reducible apply Box.set21 | with_reducible apply Box.set40 | with_reducible apply Box.set41 | with_reducible apply Box.set42 | with_reducible apply Box.set43 | with_reducible apply Box.set50 | with_reducible apply Box.set51 | with_reducible apply Box.set52 | with_reducible apply Box.set53 | with_reducible apply Box.set54 | with_reducible apply Box.drew | (with_reducible apply Box.newAt; (try simp only [World.size_alloc, World.size_setCell, World.size_drew]); done) | with_reducible apply Box.alloc | (with_reducible apply Box.other; case hne => ((try simp only [World.size_alloc, World.size_setCell, World.size_drew]); omega))))
  have hk' : Kept w.heap.size w w1 := Kept.step (by repeat (first | with_reducible exact hk | with_reducible exact Kept.refl _ | with_reducible refine Kept.alloc ?_ _ | with_reducible refine Kept.drew ?_ | with_reducible refine Kept.setCell ?_ (by simp only [World.size_alloc, World.size_setCell, World.size_drew]; omega) _)) hb
  clear hk hb
  have X2 := X2'
  clear X2'
  have X3 := X3'
  clear X3'
  have hk := hk'
  clear hk'
  have hz_w1 := hk.size
  have X2l := X2.lt
  have X2f := X2.free
  have X2l1 : w.heap.size + 1 < w1.heap.size + 1 := by omega
  have X2l2 : w.heap.size + 1 < w1.heap.size + 1 + 1 := by omega
  have X2l3 : w.heap.size + 1 < w1.heap.size + 1 + 1 + 1 := by omega
  have X20 := X2.cell 0 _ rfl
  have X21 := X2.cell 1 _ rfl
  have X3l := X3.lt
  have X3f := X3.free
  have X3l1 : w.heap.size + 1 + 1 < w1.heap.size + 1 := by omega
  have X3l2 : w.heap.size + 1 + 1 < w1.heap.size + 1 + 1 := by omega
  have X3l3 : w.heap.size + 1 + 1 < w1.heap.size + 1 + 1 + 1 := by omega
  have X30 := X3.cell 0 _ rfl
  have X31 := X3.cell 1 _ rfl
  go_wp2_with fail
  (with_reducible refine (Sub_at hI (IsBits.of hd) _).mono ?_)
  rintro e w2 ⟨rfl, hb⟩
  have X3' : Box w2 (w.heap.size + 1 + 1) #[.int .u64 0, .int .u64 0] := Box.call hb (by repeat (first | with_reducible assumption | with_reducible apply Box.set10 | with_reducible apply Box.set20 | with_reducible apply Box.set21 | with_reducible apply Box.set40 | with_reducible apply Box.set41 | with_reducible apply Box.set42 | with_reducible apply Box.set43 | with_reducible apply Box.set50 | with_reducible apply Box.set51 | with_reducible apply Box.set52 | with_reducible apply Box.set53 | with_reducible apply Box.set54 | with_reducible apply Box.drew | (with_reducible apply Box.newAt; (try simp only [World.size_alloc, World.size_setCell, World.size_drew]); done) | with_reducible apply Box.alloc | (with_reducible apply Box.other; case hne => ((try simp only [World.size_alloc, World.size_setCell, World.size_drew]); omega))))
  have hk' : Kept w.heap.size w w2 := Kept.step (by repeat (first | with_reducible exact hk | with_reducible exact Kept.refl _ | with_reducible refine Kept.alloc ?_ _ | with_reducible refine Kept.drew ?_ | with_reducible refine Kept.setCell ?_ (by simp only [World.size_alloc, World.size_setCell, World.size_drew]; omega) _)) hb
  clear hk hb
  clear X2 X2l1 X2l2 X2l3 X2f X20 X21
  clear X3 X3l1 X3l2 X3l3 X3f X30 X31
  have X3 := X3'
  clear X3'
  have hk := hk'
  clear hk'
  have hz_w2 := hk.size
  have X3l := X3.lt
  have X3f := X3.free
  have X3l1 : w.heap.size + 1 + 1 < w2.heap.size + 1 := by omega
  have X3l2 : w.heap.size + 1 + 1 < w2.heap.size + 1 + 1 := by omega
  have X3l3 : w.heap.size + 1 + 1 < w2.heap.size + 1 + 1 + 1 := by omega
  have X30 := X3.cell 0 _ rfl
  have X31 := X3.cell 1 _ rfl
  go_wp2
  refine bodyPost_ret (v := .tuple #[bitsV (sub128 (twN r b) d), .bool true]) (by simp [results, Tryz.results167, go_sem, X30, X31, X3l, Nat.ne_of_lt X3l, Nat.ne_of_gt X3l]) rfl ⟨rfl, ?_⟩
  refine Kept.below ?_; repeat (first | with_reducible exact hk | with_reducible exact Kept.refl _ | with_reducible refine Kept.alloc ?_ _ | with_reducible refine Kept.drew ?_ | with_reducible refine Kept.setCell ?_ (by simp only [World.size_alloc, World.size_setCell, World.size_drew]; omega) _)

set_option maxRecDepth 100000 in
set_option maxHeartbeats 8000000 in
theorem next_w2 {r b d : Nat} (hw : W128 r) (hd : W128 d) (hb : b ≤ 1) (c1 : carry128 r r = false) (c2 : ltB (twN r b) d = false) (w : World) :
    Calls Tryz.prog 167 #[bitsV r, .int .u64 (b : Int), bitsV d] w fun e w' => e = .returned (.tuple #[bitsV (sub128 (twN r b) d), .bool true]) ∧ Below w.heap.size w w' := by
  have hk := Kept.refl w
  have f1 := tw_limb0 (r := r) hb
  have f2 := tw_limb1 (r := r) hb
  have hT := twN_w (r := r) hb
  have hI : IsBits (limb 1 (add128 r r)) (limb 0 (twN r b)) (twN r b) := by rw [f2]; exact IsBits.of hT
  clear f2
  go_enter Tryz.func167, Tryz.ntmps167
  go_wp2_with fail
  (with_reducible refine (Add_at (IsBits.of hw) (IsBits.of hw) _).mono ?_)
  rintro e w1 ⟨rfl, hb⟩
  have X2' : Box w1 (w.heap.size + 1) #[.int .u64 (limb 1 d), .int .u64 (limb 0 d)] := Box.call hb (by repeat (first | with_reducible assumption | with_reducible apply Box.set10 | with_reducible apply Box.set20 | with_reducible apply Box.set21 | with_reducible apply Box.set40 | with_reducible apply Box.set41 | with_reducible apply Box.set42 | with_reducible apply Box.set43 | with_reducible apply Box.set50 | with_reducible apply Box.set51 | with_reducible apply Box.set52 | with_reducible apply Box.set53 | with_reducible apply Box.set54 | with_reducible apply Box.drew | (with_reducible apply Box.newAt; (try simp only [World.size_alloc, World.size_setCell, World.size_drew]); done) | with_reducible apply Box.alloc | (with_reducible apply Box.other; case hne => ((try simp only [World.size_alloc, World.size_setCell, World.size_drew]); omega))))
  have X3' : Box w1 (w.heap.size + 1 + 1) #[.int .u64 0, .int .u64 0] := Box.call hb (by repeat (first | with_reducible assumption | with_reducible apply Box.set10 | with_reducible apply Box.set20 | with_reducible apply Box.set21 | with_reducible apply Box.set40 | with_reducible apply Box.set41 | with_reducible apply Box.set42 | with_reducible apply Box.set43 | with_reducible apply Box.set50 | with_reducible apply Box.set51 | with_reducible apply Box.set52 | with_reducible apply Box.set53 | with_reducible apply Box.set54 | with_reducible apply Box.drew | (with_reducible apply Box.newAt; (try simp only [World.size_alloc, World.size_setCell, World.size_drew]); done) | with_reducible apply Box.alloc | (with_reducible apply Box.other; case hne => ((try simp only [World.size_alloc, World.size_setCell, World.size_drew]); omega))))
  have hk' : Kept w.heap.size w w1 := Kept.step (by repeat (first | with_reducible exact hk | with_reducible exact Kept.refl _ | with_reducible refine Kept.alloc ?_ _ | with_reducible refine Kept.drew ?_ | with_reducible refine Kept.setCell ?_ (by simp only [World.size_alloc, World.size_setCell, World.size_drew]; omega) _)) hb
  clear hk hb
  have X2 := X2'
  clear X2'
  have X3 := X3'
  clear X3'
  have hk := hk'
  clear hk'
  have hz_w1 := hk.size
  have X2l := X2.lt
  have X2f := X2.free
  have X2l1 : w.heap.size + 1 < w1.heap.size + 1 := by omega
  have X2l2 : w.heap.size + 1 < w1.heap.size + 1 + 1 := by omega
  have X2l3 : w.heap.size + 1 < w1.heap.size + 1 + 1 + 1 := by omega
  have X20 := X2.cell 0 _ rfl
  have X21 := X2.cell 1 _ rfl
  have X3l := X3.lt
  have X3f := X3.free
  have X3l1 : w.heap.size + 1 + 1 < w1.heap.size + 1 := by omega
  have X3l2 : w.heap.size + 1 + 1 < w1.heap.size + 1 + 1 := by omega
  have X3l3 : w.heap.size + 1 + 1 < w1.heap.size + 1 + 1 + 1 := by omega
  have X30 := X3.cell 0 _ rfl
  have X31 := X3.cell 1 _ rfl
  go_wp2_with fail
  (with_reducible refine (Sub_at hI (IsBits.of hd) _).mono ?_)
  rintro e w2 ⟨rfl, hb⟩
  have X3' : Box w2 (w.heap.size + 1 + 1) #[.int .u64 0, .int .u64 0] := Box.call hb (by repeat (first | with_reducible assumption | with_reducible apply Box.set10 | with_reducible apply Box.set20 | with_reducible apply Box.set21 | with_reducible apply Box.set40 | with_reducible apply Box.set41 | with_reducible apply Box.set42 | with_reducible apply Box.set43 | with_reducible apply Box.set50 | with_reducible apply Box.set51 | with_reducible apply Box.set52 | with_reducible apply Box.set53 | with_reducible apply Box.set54 | with_reducible apply Box.drew | (with_reducible apply Box.newAt; (try simp only [World.size_alloc, World.size_setCell, World.size_drew]); done) | with_reducible apply Box.alloc | (with_reducible apply Box.other; case hne => ((try simp only [World.size_alloc, World.size_setCell, World.size_drew]); omega))))
  have hk' : Kept w.heap.size w w2 := Kept.step (by repeat (first | with_reducible exact hk | with_reducible exact Kept.refl _ | with_reducible refine Kept.alloc ?_ _ | with_reducible refine Kept.drew ?_ | with_reducible refine Kept.setCell ?_ (by simp only [World.size_alloc, World.size_setCell, World.size_drew]; omega) _)) hb
  clear hk hb
  clear X2 X2l1 X2l2 X2l3 X2f X20 X21
  clear X3 X3l1 X3l2 X3l3 X3f X30 X31
  have X3 := X3'
  clear X3'
  have hk := hk'
  clear hk'
  have hz_w2 := hk.size
  have X3l := X3.lt
  have X3f := X3.free
  have X3l1 : w.heap.size + 1 + 1 < w2.heap.size + 1 := by omega
  have X3l2 : w.heap.size + 1 + 1 < w2.heap.size + 1 + 1 := by omega
  have X3l3 : w.heap.size + 1 + 1 < w2.heap.size + 1 + 1 + 1 := by omega
  have X30 := X3.cell 0 _ rfl
  have X31 := X3.cell 1 _ rfl
  go_wp2
  refine bodyPost_ret (v := .tuple #[bitsV (sub128 (twN r b) d), .bool true]) (by simp [results, Tryz.results167, go_sem, X30, X31, X3l, Nat.ne_of_lt X3l, Nat.ne_of_gt X3l]) rfl ⟨rfl, ?_⟩
  refine Kept.below ?_; repeat (first | with_reducible exact hk | with_reducible exact Kept.refl _ | with_reducible refine Kept.alloc ?_ _ | with_reducible refine Kept.drew ?_ | with_reducible refine Kept.setCell ?_ (by simp only [World.size_alloc, World.size_setCell, World.size_drew]; omega) _)

set_option maxRecDepth 100000 in
set_option maxHeartbeats 8000000 in
theorem next_w3 {r b d : Nat} (hw : W128 r) (hd : W128 d) (hb : b ≤ 1) (c1 : carry128 r r = false) (c2 : ltB (twN r b) d = true) (w : World) :
    Calls Tryz.prog 167 #[bitsV r, .int .u64 (b : Int), bitsV d] w fun e w' => e = .returned (.tuple #[.agg #[.int .u64 (limb 1 (add128 r r)), .int .u64 (limb 0 (twN r b))], .bool false]) ∧ Below w.heap.size w w' := by
  have hk := Kept.refl w
  have f1 := tw_limb0 (r := r) hb
  have f2 := tw_limb1 (r := r) hb
  have hT := twN_w (r := r) hb
  have hI : IsBits (limb 1 (add128 r r)) (limb 0 (twN r b)) (twN r b) := by rw [f2]; exact IsBits.of hT
  clear f2
  go_enter Tryz.func167, Tryz.ntmps167
  go_wp2_with fail
  (with_reducible refine (Add_at (IsBits.of hw) (IsBits.of hw) _).mono ?_)
  rintro e w1 ⟨rfl, hb⟩
  have X2' : Box w1 (w.heap.size + 1) #[.int .u64 (limb 1 d), .int .u64 (limb 0 d)] := Box.call hb (by repeat (first | with_reducible assumption | with_reducible apply Box.set10 | with_reducible apply Box.set20 | with_reducible apply Box.set21 | with_reducible apply Box.set40 | with_reducible apply Box.set41 | with_reducible apply Box.set42 | with_reducible apply Box.set43 | with_reducible apply Box.set50 | with_reducible apply Box.set51 | with_reducible apply Box.set52 | with_reducible apply Box.set53 | with_reducible apply Box.set54 | with_reducible apply Box.drew | (with_reducible apply Box.newAt; (try simp only [World.size_alloc, World.size_setCell, World.size_drew]); done) | with_reducible apply Box.alloc | (with_reducible apply Box.other; case hne => ((try simp only [World.size_alloc, World.size_setCell, World.size_drew]); omega))))
  have X3' : Box w1 (w.heap.size + 1 + 1) #[.int .u64 0, .int .u64 0] := Box.call hb (by repeat (first | with_reducible assumption | with_reducible apply Box.set10 | with_reducible apply Box.set20 | with_reducible apply Box.set21 | with_reducible apply Box.set40 | with_reducible apply Box.set41 | with_reducible apply Box.set42 | with_reducible apply Box.set43 | with_reducible apply Box.set50 | with_reducible apply Box.set51 | with_reducible apply Box.set52 | with_reducible apply Box.set53 | with_reducible apply Box.set54 | with_reducible apply Box.drew | (with_reducible apply Box.newAt; (try simp only [World.size_alloc, World.size_setCell, World.size_drew]); done) | with_reducible apply Box.alloc | (with_reducible apply Box.other; case hne => ((try simp only [World.size_alloc, World.size_setCell, World.size_drew]); omega))))
  have hk' : Kept w.heap.size w w1 := Kept.step (by repeat (first | with_reducible exact hk | with_reducible exact Kept.refl _ | with_reducible refine Kept.alloc ?_ _ | with_reducible refine Kept.drew ?_ | with_reducible refine Kept.setCell ?_ (by simp only [World.size_alloc, World.size_setCell, World.size_drew]; omega) _)) hb
  clear hk hb
  have X2 := X2'
  clear X2'
  have X3 := X3'
  clear X3'
  have hk := hk'
  clear hk'
  have hz_w1 := hk.size
  have X2l := X2.lt
  have X2f := X2.free
  have X2l1 : w.heap.size + 1 < w1.heap.size + 1 := by omega
  have X2l2 : w.heap.size + 1 < w1.heap.size + 1 + 1 := by omega
  have X2l3 : w.heap.size + 1 < w1.heap.size + 1 + 1 + 1 := by omega
  have X20 := X2.cell 0 _ rfl
  have X21 := X2.cell 1 _ rfl
  have X3l := X3.lt
  have X3f := X3.free
  have X3l1 : w.heap.size + 1 + 1 < w1.heap.size + 1 := by omega
  have X3l2 : w.heap.size + 1 + 1 < w1.heap.size + 1 + 1 := by omega
  have X3l3 : w.heap.size + 1 + 1 < w1.heap.size + 1 + 1 + 1 := by omega
  have X30 := X3.cell 0 _ rfl
  have X31 := X3.cell 1 _ rfl
  go_wp2_with fail
  (with_reducible refine (Sub_at hI (IsBits.of hd) _).mono ?_)
  rintro e w2 ⟨rfl, hb⟩
  have X3' : Box w2 (w.heap.size + 1 + 1) #[.int .u64 0, .int .u64 0] := Box.call hb (by repeat (first | with_reducible assumption | with_reducible apply Box.set10 | with_reducible apply Box.set20 | with_reducible apply Box.set21 | with_reducible apply Box.set40 | with_reducible apply Box.set41 | with_reducible apply Box.set42 | with_reducible apply Box.set43 | with_reducible apply Box.set50 | with_reducible apply Box.set51 | with_reducible apply Box.set52 | with_reducible apply Box.set53 | with_reducible apply Box.set54 | with_reducible apply Box.drew | (with_reducible apply Box.newAt; (try simp only [World.size_alloc, World.size_setCell, World.size_drew]); done) | with_reducible apply Box.alloc | (with_reducible apply Box.other; case hne => ((try simp only [World.size_alloc, World.size_setCell, World.size_drew]); omega))))
  have X4' : Box w2 (w1.heap.size) #[.int .u64 (limb 1 (add128 r r)), .int .u64 (limb 0 (twN r b))] := Box.call hb (by repeat (first | with_reducible assumption | with_reducible apply Box.set10 | with_reducible apply Box.set20 | with_reducible apply Box.set21 | with_reducible apply Box.set40 | with_reducible apply Box.set41 | with_reducible apply Box.set42 | with_reducible apply Box.set43 | with_reducible apply Box.set50 | with_reducible apply Box.set51 | with_reducible apply Box.set52 | with_reducible apply Box.set53 | with_reducible apply Box.set54 | with_reducible apply Box.drew | (with_reducible apply Box.newAt; (try simp only [World.size_alloc, World.size_setCell, World.size_drew]); done) | with_reducible apply Box.alloc | (with_reducible apply Box.other; case hne => ((try simp only [World.size_alloc, World.size_setCell, World.size_drew]); omega))))
  have hk' : Kept w.heap.size w w2 := Kept.step (by repeat (first | with_reducible exact hk | with_reducible exact Kept.refl _ | with_reducible refine Kept.alloc ?_ _ | with_reducible refine Kept.drew ?_ | with_reducible refine Kept.setCell ?_ (by simp only [World.size_alloc, World.size_setCell, World.size_drew]; omega) _)) hb
  clear hk hb
  clear X2 X2l1 X2l2 X2l3 X2f X20 X21
  clear X3 X3l1 X3l2 X3l3 X3f X30 X31
  have X3 := X3'
  clear X3'
  have X4 := X4'
  clear X4'
  have hk := hk'
  clear hk'
  have hz_w2 := hk.size
  have X3l := X3.lt
  have X3f := X3.free
  have X3l1 : w.heap.size + 1 + 1 < w2.heap.size + 1 := by omega
  have X3l2 : w.heap.size + 1 + 1 < w2.heap.size + 1 + 1 := by omega
  have X3l3 : w.heap.size + 1 + 1 < w2.heap.size + 1 + 1 + 1 := by omega
  have X30 := X3.cell 0 _ rfl
  have X31 := X3.cell 1 _ rfl
  have X4l := X4.lt
  have X4f := X4.free
  have X4l1 : w1.heap.size < w2.heap.size + 1 := by omega
  have X4l2 : w1.heap.size < w2.heap.size + 1 + 1 := by omega
  have X4l3 : w1.heap.size < w2.heap.size + 1 + 1 + 1 := by omega
  have X40 := X4.cell 0 _ rfl
  have X41 := X4.cell 1 _ rfl
  go_wp2
  refine bodyPost_ret (v := .tuple #[.agg #[.int .u64 (limb 1 (add128 r r)), .int .u64 (limb 0 (twN r b))], .bool false]) (by simp [results, Tryz.results167, go_sem, X30, X31, X3l, Nat.ne_of_lt X3l, Nat.ne_of_gt X3l]) rfl ⟨rfl, ?_⟩
  refine Kept.below ?_; repeat (first | with_reducible exact hk | with_reducible exact Kept.refl _ | with_reducible refine Kept.alloc ?_ _ | with_reducible refine Kept.drew ?_ | with_reducible refine Kept.setCell ?_ (by simp only [World.size_alloc, World.size_setCell, World.size_drew]; omega) _)

theorem next_any {r b d : Nat} (hd : W128 d) (hr : r < d) (hb : b ≤ 1) (w : World) :
    Calls Tryz.prog 167 #[bitsV r, .int .u64 (b : Int), bitsV d] w fun e w' => e = .returned (.tuple #[bitsV (nextN r b d), .bool (onceB r b d)]) ∧ Below w.heap.size w w' := by
  have hw : W128 r := ⟨Nat.lt_trans hr hd.lt⟩
  cases c1 : carry128 r r with
  | true => obtain ⟨e1, e2⟩ := next_carry hd hr hb c1; rw [← e1, e2]; exact next_w1 hw hd hb c1 w
  | false =>
    cases c2 : ltB (twN r b) d with
    | false => obtain ⟨e1, e2⟩ := next_over hd hr hb c1 c2; rw [← e1, e2]; exact next_w2 hw hd hb c1 c2 w
    | true => obtain ⟨e1, e2⟩ := next_no hd hr hb c1 c2; have e3 : bitsV (twN r b) = .agg #[.int .u64 (limb 1 (add128 r r)), .int .u64 (limb 0 (twN r b))] := (by rw [tw_limb1 hb]); rw [← e1, e2, e3]; exact next_w3 hw hd hb c1 c2 w
end Go.Proofs.YtpfoifflfgiaoaaGreatDoor
