/- What functions answer, by its shape; format.Fits by what it says. -/
import Derived.Test.YtpfoifflfgiaoaaGreatDoorK23
import Derived.Test.YtpfoifflfgiaoaaGreatDoorK14
set_option linter.unusedVariables false
set_option linter.unusedSimpArgs false
namespace Go.Proofs.YtpfoifflfgiaoaaGreatDoor
open Go Go.RowKit Go.MapKept
theorem tot_compsizesi : Tot Tryz.prog G0 241 [shNumI, shNumI] (.i .i64) := tot_of 3000 ext0_ok noNG litG0 C43_ok fun a => by kernel_rfl
noncomputable def C44 : Con := C43.add Tryz.prog G0 241 [shNumI, shNumI] (.i .i64)
theorem C44_ok : ConOk Tryz.prog G0 C44 := C43_ok.add tot_compsizesi
theorem tot_comprelatedr : Tot Tryz.prog G0 186 [shNumI, shNumI] (.i .u8) := tot_of 3000 ext0_ok noNG litG0 C44_ok fun a => by kernel_rfl
noncomputable def C45 : Con := C44.add Tryz.prog G0 186 [shNumI, shNumI] (.i .u8)
theorem C45_ok : ConOk Tryz.prog G0 C45 := C44_ok.add tot_comprelatedr
theorem tot_compQuietr8 : Tot Tryz.prog G0 68 [.i .u8, shBits, shBits] (.t [.i .u8, .i .u8]) := tot_of 3000 ext0_ok noNG litG0 C45_ok fun a => by kernel_rfl
noncomputable def C46 : Con := C45.add Tryz.prog G0 68 [.i .u8, shBits, shBits] (.t [.i .u8, .i .u8])
theorem C46_ok : ConOk Tryz.prog G0 C46 := C45_ok.add tot_compQuietr8
theorem tot_compSignalingr8 : Tot Tryz.prog G0 70 [.i .u8, shBits, shBits] (.t [.i .u8, .i .u8]) := tot_of 3000 ext0_ok noNG litG0 C46_ok fun a => by kernel_rfl
noncomputable def C47 : Con := C46.add Tryz.prog G0 70 [.i .u8, shBits, shBits] (.t [.i .u8, .i .u8])
theorem C47_ok : ConOk Tryz.prog G0 C47 := C46_ok.add tot_compSignalingr8
theorem tot_tointwholeBzz : Tot Tryz.prog G0 120 [shNumI, .i .u8] (.t [shBits, .b, .b]) := tot_of 3000 ext0_ok noNG litG0 C47_ok fun a => by kernel_rfl
noncomputable def C48 : Con := C47.add Tryz.prog G0 120 [shNumI, .i .u8] (.t [shBits, .b, .b])
theorem C48_ok : ConOk Tryz.prog G0 C48 := C47_ok.add tot_tointwholeBzz
end Go.Proofs.YtpfoifflfgiaoaaGreatDoor
namespace Go.Proofs.YtpfoifflfgiaoaaGreatDoor
open Go Go.RowKit Go.MapKept
theorem tot_tointIntk0w : Tot Tryz.prog G0 63 [.i .u8, .n .u8 0, .i .u8, shBits] (shWhole) := tot_of 3000 ext0_ok noNG litG0 C48_ok fun a => by kernel_rfl
noncomputable def C49 : Con := C48.add Tryz.prog G0 63 [.i .u8, .n .u8 0, .i .u8, shBits] (shWhole)
theorem C49_ok : ConOk Tryz.prog G0 C49 := C48_ok.add tot_tointIntk0w
theorem tot_tointIntk1w : Tot Tryz.prog G0 63 [.i .u8, .n .u8 1, .i .u8, shBits] (shWhole) := tot_of 3000 ext0_ok noNG litG0 C49_ok fun a => by kernel_rfl
noncomputable def C50 : Con := C49.add Tryz.prog G0 63 [.i .u8, .n .u8 1, .i .u8, shBits] (shWhole)
theorem C50_ok : ConOk Tryz.prog G0 C50 := C49_ok.add tot_tointIntk1w
theorem tot_tointIntk2w : Tot Tryz.prog G0 63 [.i .u8, .n .u8 2, .i .u8, shBits] (shWhole) := tot_of 3000 ext0_ok noNG litG0 C50_ok fun a => by kernel_rfl
noncomputable def C51 : Con := C50.add Tryz.prog G0 63 [.i .u8, .n .u8 2, .i .u8, shBits] (shWhole)
theorem C51_ok : ConOk Tryz.prog G0 C51 := C50_ok.add tot_tointIntk2w
theorem tot_tointIntk3w : Tot Tryz.prog G0 63 [.i .u8, .n .u8 3, .i .u8, shBits] (shWhole) := tot_of 3000 ext0_ok noNG litG0 C51_ok fun a => by kernel_rfl
noncomputable def C52 : Con := C51.add Tryz.prog G0 63 [.i .u8, .n .u8 3, .i .u8, shBits] (shWhole)
theorem C52_ok : ConOk Tryz.prog G0 C52 := C51_ok.add tot_tointIntk3w
theorem tot_fromintFromk0R : Tot Tryz.prog G0 65 [.n .u8 0, .i .u8, shEnv, .i .u64] (shRes) := tot_of 3000 ext0_ok noNG litG0 C52_ok fun a => by kernel_rfl
noncomputable def C53 : Con := C52.add Tryz.prog G0 65 [.n .u8 0, .i .u8, shEnv, .i .u64] (shRes)
theorem C53_ok : ConOk Tryz.prog G0 C53 := C52_ok.add tot_fromintFromk0R
theorem tot_fromintFromk1R : Tot Tryz.prog G0 65 [.n .u8 1, .i .u8, shEnv, .i .u64] (shRes) := tot_of 3000 ext0_ok noNG litG0 C53_ok fun a => by kernel_rfl
noncomputable def C54 : Con := C53.add Tryz.prog G0 65 [.n .u8 1, .i .u8, shEnv, .i .u64] (shRes)
theorem C54_ok : ConOk Tryz.prog G0 C54 := C53_ok.add tot_fromintFromk1R
theorem tot_fromintFromk2R : Tot Tryz.prog G0 65 [.n .u8 2, .i .u8, shEnv, .i .u64] (shRes) := tot_of 3000 ext0_ok noNG litG0 C54_ok fun a => by kernel_rfl
noncomputable def C55 : Con := C54.add Tryz.prog G0 65 [.n .u8 2, .i .u8, shEnv, .i .u64] (shRes)
theorem C55_ok : ConOk Tryz.prog G0 C55 := C54_ok.add tot_fromintFromk2R
theorem tot_fromintFromk3R : Tot Tryz.prog G0 65 [.n .u8 3, .i .u8, shEnv, .i .u64] (shRes) := tot_of 3000 ext0_ok noNG litG0 C55_ok fun a => by kernel_rfl
noncomputable def C56 : Con := C55.add Tryz.prog G0 65 [.n .u8 3, .i .u8, shEnv, .i .u64] (shRes)
theorem C56_ok : ConOk Tryz.prog G0 C56 := C55_ok.add tot_fromintFromk3R
end Go.Proofs.YtpfoifflfgiaoaaGreatDoor
namespace Go.Proofs.YtpfoifflfgiaoaaGreatDoor
open Go Go.RowKit Go.MapKept

def fitsB (f : Int) (A : Nat) : Bool := (decide (f = 0) && decide (A < 2 ^ 16)) || ((decide (f = 1) && decide (A < 2 ^ 32)) || ((decide (f = 2) && decide (A < 2 ^ 64)) || decide (f = 3)))
def cutX (hi lo : Int) (n : Int) : Nat := rightN (val2 (limb 0 (left128 (val2 lo hi) n)) (limb 1 (left128 (val2 lo hi) n))) n
def cutEq (hi lo : Int) (n : Int) : Bool := (limb 1 (cutX hi lo n) == hi) && ((limb 0 (cutX hi lo n) == lo) && true)
theorem cutEq_eq {hi lo : Int} (h1 : U64 hi) (h0 : U64 lo) (n : Nat) (hn : n ≤ 128) : cutEq hi lo (n : Int) = decide (val2 lo hi < 2 ^ (128 - n)) := by
  have hA := IsBits.val h1 h0
  have hw := hA.w.lt
  have e1 := hA.hi
  have e0 := hA.lo
  have hL : left128 (val2 lo hi) (n : Int) < 2 ^ 128 := Nat.mod_lt _ (by decide)
  unfold cutEq cutX
  rw [val2_limb _ hL]
  clear hL
  generalize val2 lo hi = A at *
  have hX : rightN (left128 A (n : Int)) (n : Int) = A % 2 ^ (128 - n) := by
    unfold rightN left128
    simp only [Int.toNat_natCast]
    have h2 : (2 : Nat) ^ 128 = 2 ^ (128 - n) * 2 ^ n := by rw [← Nat.pow_add]; congr 1; omega
    rw [h2, Nat.mul_mod_mul_right, Nat.mul_div_cancel _ (Nat.pow_pos (by omega))]
  rw [hX]
  by_cases h : A < 2 ^ (128 - n)
  · rw [Nat.mod_eq_of_lt h, decide_eq_true h, ← e1, ← e0]
    simp
  · rw [decide_eq_false h]
    refine Bool.eq_false_iff.2 fun hc => h ?_
    simp only [Bool.and_true, Bool.and_eq_true, beq_iff_eq] at hc
    have hXw : A % 2 ^ (128 - n) < 2 ^ 128 := Nat.lt_of_le_of_lt (Nat.mod_le _ _) hw
    have : A % 2 ^ (128 - n) = A := by
      have g1 := val2_limb _ hXw
      have g2 := val2_limb _ hw
      rw [hc.1, hc.2, e1, e0, g2] at g1
      exact g1.symm
    rw [← this]
    exact Nat.mod_lt _ (Nat.pow_pos (by omega))
theorem Tr.go_false {α : Type} {t : Tr α} (h : t.cond = false) : t.ev = (t.go [false]).ev := by
  cases t with
  | test c t f => simp only [Tr.cond] at h; simp [Tr.ev, Tr.go, h]
  | _ => rfl
/-- what a tree answers is said -/
theorem says_val {P : Program} {x : Ext} {C : Con} {n : Nat} {G : Glob} {f : FuncId} {args : List AV} {v : AV} (hx : ExtOk P x) (hn : NoNG P) (hl : litG G = true) (hC : ConOk P G C) (ha : scL (fun _ => false) args = true)
    (h : (treeF P x C n G f args).ev.map (fun q => (q.1, q.1.sc (fun _ => false) && q.2.2.2.1.all id)) = some (v, true)) : Says P G f args v := by
  obtain ⟨q, h1, h2⟩ := Option.map_eq_some_iff.1 h
  simp only [Prod.mk.injEq] at h2
  rw [← h2.1]
  exact says_ev hx hn hl hC ha h1 h2.2
theorem Says.congr {P : Program} {G : Glob} {f : FuncId} {l l' : List AV} {r r' : AV} (h : Says P G f l r) (hl : ∀ e, denL e l' = denL e l) (hr : ∀ e, r'.den e = r.den e) : Says P G f l' r' := fun e w hw => by
  have := h e w hw
  rw [hl e, hr e]; exact this
def okQ (q : Res) : AV × Bool := (q.1, q.1.sc (fun _ => false) && q.2.2.2.1.all id)
theorem fits_says (a : AV) : Says Tryz.prog G0 25 (rvL [.i .u8, shBits] a 0) (.v (.bool (fitsB (getI .u8 (a.item 0)).1 (val2 (getI .u64 ((a.item 1).item 1)).1 (getI .u64 ((a.item 1).item 0)).1)))) := by
  have hr := u8_of (getI .u8 (a.item 0)).2 rfl
  have hhi := u64_of (getI .u64 ((a.item 1).item 0)).2 rfl
  have hlo := u64_of (getI .u64 ((a.item 1).item 1)).2 rfl
  have hw := (IsBits.val hhi hlo).w.lt
  have lit : ∀ j : Int, (getI .u8 (a.item 0)).1 = j → ∀ v, Says Tryz.prog G0 25 (rvL [.n .u8 j, shBits] a 0) v → Says Tryz.prog G0 25 (rvL [.i .u8, shBits] a 0) v := fun j hj v h => by
    refine h.congr (fun e => ?_) fun e => rfl
    simp only [rvL, rv, denL, AV.den, hj]
  by_cases h : 4 ≤ (getI .u8 (a.item 0)).1
  · have hc : (treeF Tryz.prog ext0 C0 3000 G0 25 (rvL [.i .u8, shBits] a 0)).cond = decide (wrapF .i64 (getI .u8 (a.item 0)).1 < 4) := by kernel_rfl
    have key : decide (wrapF .i64 (getI .u8 (a.item 0)).1 < 4) = false := decide_eq_false (by show ¬ ((getI .u8 (a.item 0)).1 + 9223372036854775808) % 18446744073709551616 - 9223372036854775808 < 4; omega)
    have hf : ((treeF Tryz.prog ext0 C0 3000 G0 25 (rvL [.i .u8, shBits] a 0)).go [false]).ev.map okQ = some (.b false, true) := by kernel_rfl
    have hs : Says Tryz.prog G0 25 (rvL [.i .u8, shBits] a 0) (.b false) := says_val ext0_ok noNG litG0 C0_ok (rvL_sc _ _ _ _) (by rw [Tr.go_false (hc.trans key)]; exact hf)
    refine hs.congr (fun e => rfl) fun e => ?_
    simp only [AV.den, fitsB, decide_eq_false (show ¬ (getI .u8 (a.item 0)).1 = 0 by omega), decide_eq_false (show ¬ (getI .u8 (a.item 0)).1 = 1 by omega), decide_eq_false (show ¬ (getI .u8 (a.item 0)).1 = 2 by omega), decide_eq_false (show ¬ (getI .u8 (a.item 0)).1 = 3 by omega)]
    rfl
  · have go : ∀ (j : Nat) (n : Nat), n ≤ 128 → (getI .u8 (a.item 0)).1 = (j : Int) → ((treeF Tryz.prog ext0 C0 3000 G0 25 (rvL [.n .u8 (j : Int), shBits] a 0)).ev.map okQ = some (.v (.bool (cutEq (getI .u64 ((a.item 1).item 0)).1 (getI .u64 ((a.item 1).item 1)).1 (n : Int))), true)) →
        (decide (val2 (getI .u64 ((a.item 1).item 1)).1 (getI .u64 ((a.item 1).item 0)).1 < 2 ^ (128 - n)) = fitsB (j : Int) (val2 (getI .u64 ((a.item 1).item 1)).1 (getI .u64 ((a.item 1).item 0)).1)) →
        Says Tryz.prog G0 25 (rvL [.i .u8, shBits] a 0) (.v (.bool (fitsB (getI .u8 (a.item 0)).1 (val2 (getI .u64 ((a.item 1).item 1)).1 (getI .u64 ((a.item 1).item 0)).1)))) := fun j n hn hj hk hq => by
      rw [hj]
      refine lit _ hj _ ?_
      rw [← hq, ← cutEq_eq hhi hlo n hn]
      exact says_val ext0_ok noNG litG0 C0_ok (rvL_sc _ _ _ _) hk
    have hv : (getI .u8 (a.item 0)).1 = ((0 : Nat) : Int) ∨ (getI .u8 (a.item 0)).1 = ((1 : Nat) : Int) ∨ (getI .u8 (a.item 0)).1 = ((2 : Nat) : Int) ∨ (getI .u8 (a.item 0)).1 = ((3 : Nat) : Int) := by omega
    rcases hv with hv | hv | hv | hv
    · exact go 0 112 (by omega) hv (by kernel_rfl) (by simp [fitsB])
    · exact go 1 96 (by omega) hv (by kernel_rfl) (by simp [fitsB])
    · exact go 2 64 (by omega) hv (by kernel_rfl) (by simp [fitsB])
    · exact go 3 0 (by omega) hv (by kernel_rfl) (by simp [fitsB]; exact hw)

theorem getI_of {k : IntKind} {x : AV} {r : RI} (h : ri x = some r) (hk : r.k = k) : (getI k x).1 = r.i := by
  unfold getI
  rw [h]
  simp [hk]
theorem getI_m8 {x : AV} {y : M8} (h : m8 x = some y) : (getI .u8 x).1 = y.i := by
  unfold m8 at h
  split at h <;> try cases h
  rename_i r h1
  split at h <;> try cases h
  rename_i hk
  exact getI_of h1 hk
theorem getI_b2 {x : AV} {y : B2} (h : b2 x = some y) : (getI .u64 (x.item 0)).1 = y.i ∧ (getI .u64 (x.item 1)).1 = y.j := by
  unfold b2 at h
  split at h <;> try cases h
  split at h <;> try cases h
  rename_i a b h1 h2
  split at h <;> try cases h
  rename_i hk
  exact ⟨getI_of (show ri ((AV.a [_, _]).item 0) = some a from h1) hk.1, getI_of (show ri ((AV.a [_, _]).item 1) = some b from h2) hk.2⟩
/-- one more contract, by what it says -/
noncomputable def Con.put (C : Con) (f : FuncId) (o : List AV → Option AV) : Con where
  orc := fun g args h => if g = f then match o args with
    | some r => some (r, [])
    | none => C.orc g args h else C.orc g args h
  tree := fun g args h => if g = f then match o args with
    | some r => some fun K => K r
    | none => C.tree g args h else C.tree g args h
theorem ConOk.put {P : Program} {C : Con} {G : Glob} {f : FuncId} {o : List AV → Option AV} (hC : ConOk P G C)
    (h : ∀ args r, o args = some r → ∀ (e : Env) (w : World), GOk G w.heap.size w → Calls P f (denL e args).toArray w fun en w' => en = .returned (r.den e) ∧ Below w.heap.size w w') : ConOk P G (C.put f o) := by
  refine ⟨fun B W hW g args hp r ob hr ho e w hs hb => ?_, fun g args hp => ⟨fun t ht K r hr => ?_, fun hne => ?_⟩⟩
  · simp only [Con.put] at hr
    split at hr
    · rename_i hg
      split at hr
      · rename_i r' hr'
        simp only [Option.some.injEq, Prod.mk.injEq] at hr
        obtain ⟨rfl, rfl⟩ := hr
        rw [hg]
        exact h args r' hr' e w (hW.below hb hs.size)
      · exact hC.ok B W hW g args hp r ob hr ho e w hs hb
    · exact hC.ok B W hW g args hp r ob hr ho e w hs hb
  · simp only [Con.put] at ht ⊢
    split at ht
    · rename_i hg
      rw [if_pos hg]
      split at ht
      · rename_i r' hr'
        cases ht
        exact ⟨r', rfl, hr⟩
      · exact (hC.tr g args hp).1 t ht K r hr
    · rename_i hg
      rw [if_neg hg]
      exact (hC.tr g args hp).1 t ht K r hr
  · simp only [Con.put] at hne ⊢
    split at hne
    · rename_i hg
      rw [if_pos hg]
      split at hne
      · cases hne
      · exact (hC.tr g args hp).2 hne
    · rename_i hg
      rw [if_neg hg]
      exact (hC.tr g args hp).2 hne
def oFits (args : List AV) : Option AV := match args with
  | [x0, x1] => match m8 x0, b2 x1 with
    | some y0, some y1 => some (mkB (y0.l && y1.l) (fitsB y0.i (val2 y1.j y1.i)))
    | _, _ => none
  | _ => none
theorem oFits_ok (args : List AV) (r : AV) (h : oFits args = some r) (e : Env) (w : World) (hw : GOk G0 w.heap.size w) : Calls Tryz.prog 25 (denL e args).toArray w fun en w' => en = .returned (r.den e) ∧ Below w.heap.size w w' := by
  unfold oFits at h
  split at h <;> try cases h
  rename_i x0 x1
  split at h <;> try cases h
  rename_i y0 y1 h0 h1
  have := fits_says (.t [x0, x1]) e w hw
  have i0 : (AV.t [x0, x1]).item 0 = x0 := rfl
  have i1 : (AV.t [x0, x1]).item 1 = x1 := rfl
  have g0 := getI_m8 h0
  have g1 := getI_b2 h1
  simp only [rvL, rv, shBits, denL, AV.den, i0, i1, g0, g1.1, g1.2] at this
  rw [mkB_den]
  simp only [denL, m8_den h0, b2_den h1]
  exact this
end Go.Proofs.YtpfoifflfgiaoaaGreatDoor
namespace Go.Proofs.YtpfoifflfgiaoaaGreatDoor
open Go Go.RowKit Go.MapKept

/-- the tests along a path -/
def Tr.cs {α : Type} : List Bool → Tr α → List Bool
  | [], _ => []
  | true :: p, .test c t _ => c :: t.cs p
  | false :: p, .test c _ f => c :: f.cs p
  | _ :: _, _ => []
/-- a tree that is one path, at its end a good leaf; whoever leaves it comes to a bad one -/
def Tr.cat {α : Type} (good bad : α → Bool) : List Bool → Tr α → Bool
  | [], .ret a => good a
  | true :: p, .test _ t f => t.cat good bad p && (match f with | .ret a => bad a | _ => false)
  | false :: p, .test _ t f => f.cat good bad p && (match t with | .ret a => bad a | _ => false)
  | _, _ => false
theorem Tr.cat_ev {α : Type} {good bad : α → Bool} : ∀ {p : List Bool} {t : Tr α}, t.cat good bad p = true →
    (t.cs p = p → ∃ a, t.ev = some a ∧ good a = true) ∧ (t.cs p ≠ p → ∃ a, t.ev = some a ∧ bad a = true)
  | [], t, h => by
    cases t with
    | ret a => exact ⟨fun _ => ⟨a, rfl, h⟩, fun hn => absurd rfl hn⟩
    | _ => cases h
  | b :: p, t, h => by
    cases t with
    | ret a => cases b <;> cases h
    | fail => cases b <;> cases h
    | test c t f =>
      cases b
      · simp only [Tr.cat, Bool.and_eq_true] at h
        obtain ⟨h1, h2⟩ := h
        have ih := Tr.cat_ev (p := p) (t := f) h1
        cases t with
        | ret a =>
          simp only [Tr.cs, Tr.ev]
          cases c
          · simpa using ih
          · exact ⟨fun hc => (by simp at hc), fun _ => ⟨a, by simp, h2⟩⟩
        | _ => cases h2
      · simp only [Tr.cat, Bool.and_eq_true] at h
        obtain ⟨h1, h2⟩ := h
        have ih := Tr.cat_ev (p := p) (t := t) h1
        cases f with
        | ret a =>
          simp only [Tr.cs, Tr.ev]
          cases c
          · exact ⟨fun hc => (by simp at hc), fun _ => ⟨a, by simp, h2⟩⟩
          · simpa using ih
        | _ => cases h2
/-- a tree answers what is behind a path, if its tests come out so -/
theorem Tr.path_ev {α : Type} : ∀ {p : List Bool} {t : Tr α}, t.cs p = p → t.ev = (t.go p).ev
  | [], t, _ => rfl
  | b :: p, t, h => by
    cases t with
    | ret a => cases b <;> cases h
    | fail => cases b <;> cases h
    | test c t f =>
      cases b
      · simp only [Tr.cs, List.cons.injEq] at h
        simp only [Tr.ev, h.1, Bool.false_eq_true, if_false, Tr.go]
        exact Tr.path_ev h.2
      · simp only [Tr.cs, List.cons.injEq] at h
        simp only [Tr.ev, h.1, if_true, Tr.go]
        exact Tr.path_ev h.2
/-- an outcome that is one · that of an entry that may not be -/
def goodO (q : Res) : Bool := (q.1.sc (fun _ => false) && q.2.2.2.1.all id) && (match q.1 with | .a [.n .i64 0, x, y, z] => fit (.i .u64) x && (fit (.i .u64) y && fit (.i .u8) z) | _ => false)
def badO (q : Res) : Bool := (q.1.sc (fun _ => false) && q.2.2.2.1.all id) && (match q.1 with | .a [.n .i64 1, .n .u64 0, .n .u64 0, .n .u8 0] => true | _ => false)

noncomputable def CR : Con := C56.put 25 oFits
theorem CR_ok : ConOk Tryz.prog G0 CR := C56_ok.put fun args r h e w hw => oFits_ok args r h e w hw
/-- an entry of a literal operation -/
def shEnt (op : Int) (to : Sh) : List Sh := [.a [.n .u8 op, .i .u8, to, .i .u8, .i .u8, .i .u64, .i .u64, .i .u64, .i .u64, .i .u64, .i .u64]]
def eF (a : AV) : Int := (getI .u8 ((a.item 0).item 1)).1
def eTo (a : AV) : Int := (getI .u8 ((a.item 0).item 2)).1
def eM (a : AV) : Int := (getI .u8 ((a.item 0).item 3)).1
def eTi (a : AV) : Int := (getI .u8 ((a.item 0).item 4)).1
def eW (a : AV) (j : Nat) : Int := (getI .u64 ((a.item 0).item (5 + j))).1
noncomputable def runT (args : List AV) : Tr Res := treeF Tryz.prog ext0 CR 3000 G0 5 args
/-- what Run answers: an outcome without an error just if the tests come out so; else ErrBad and noughts -/
def Ran (args : List AV) (L p : List Bool) : Prop := ∃ r, Says Tryz.prog G0 5 args r ∧
  (L = p → ∃ x y z, r = .a [.n .i64 0, x, y, z] ∧ fit (.i .u64) x = true ∧ fit (.i .u64) y = true ∧ fit (.i .u8) z = true) ∧ (L ≠ p → r = .a [.n .i64 1, .n .u64 0, .n .u64 0, .n .u8 0])
theorem ran_of {args : List AV} {L p : List Bool} (ha : scL (fun _ => false) args = true) (h : (runT args).cat goodO badO p = true) (hc : (runT args).cs p = L) : Ran args L p := by
  obtain ⟨h1, h2⟩ := Tr.cat_ev h
  rw [hc] at h1 h2
  by_cases he : L = p
  · obtain ⟨q, g1, g2⟩ := h1 he
    simp only [goodO, Bool.and_eq_true] at g2
    refine ⟨q.1, says_ev ext0_ok noNG litG0 CR_ok ha g1 (by simp only [Bool.and_eq_true]; exact g2.1), fun _ => ?_, fun hn => absurd he hn⟩
    have g3 := g2.2
    split at g3
    · rename_i x y z hq
      simp only [Bool.and_eq_true] at g3
      exact ⟨x, y, z, hq, g3.1, g3.2.1, g3.2.2⟩
    · cases g3
  · obtain ⟨q, g1, g2⟩ := h2 he
    simp only [badO, Bool.and_eq_true] at g2
    refine ⟨q.1, says_ev ext0_ok noNG litG0 CR_ok ha g1 (by simp only [Bool.and_eq_true]; exact g2.1), fun hn => absurd hn he, fun _ => ?_⟩
    have g3 := g2.2
    split at g3
    · rename_i hq; exact hq
    · cases g3

/-- an operation that is none -/
def shAny : List Sh := [.a [.i .u8, .i .u8, .i .u8, .i .u8, .i .u8, .i .u64, .i .u64, .i .u64, .i .u64, .i .u64, .i .u64]]
def eOp (a : AV) : Int := (getI .u8 ((a.item 0).item 0)).1
theorem cs_none (a : AV) : (runT (rvL shAny a 0)).cs (List.replicate 14 false) = [eOp a == 1, eOp a == 2, eOp a == 3, eOp a == 4, eOp a == 5, eOp a == 6, eOp a == 7, eOp a == 8, eOp a == 9, eOp a == 10, eOp a == 11, eOp a == 12, eOp a == 13, eOp a == 14] := by kernel_rfl
theorem go_none (a : AV) : (((runT (rvL shAny a 0)).go (List.replicate 14 false)).ev.map okQ) = some (.a [.n .i64 1, .n .u64 0, .n .u64 0, .n .u8 0], true) := by kernel_rfl
theorem run_none (a : AV) (h : eOp a < 1 ∨ 14 < eOp a) : Says Tryz.prog G0 5 (rvL shAny a 0) (.a [.n .i64 1, .n .u64 0, .n .u64 0, .n .u8 0]) := by
  have hc : (runT (rvL shAny a 0)).cs (List.replicate 14 false) = List.replicate 14 false := by
    rw [cs_none]
    have ne : ∀ k : Int, 1 ≤ k → k ≤ 14 → (eOp a == k) = false := fun k h1 h2 => by
      rw [beq_eq_false_iff_ne]; omega
    rw [ne 1 (by omega) (by omega), ne 2 (by omega) (by omega), ne 3 (by omega) (by omega), ne 4 (by omega) (by omega), ne 5 (by omega) (by omega), ne 6 (by omega) (by omega), ne 7 (by omega) (by omega), ne 8 (by omega) (by omega), ne 9 (by omega) (by omega), ne 10 (by omega) (by omega), ne 11 (by omega) (by omega), ne 12 (by omega) (by omega), ne 13 (by omega) (by omega), ne 14 (by omega) (by omega)]
    rfl
  exact says_val (n := 3000) ext0_ok noNG litG0 CR_ok (rvL_sc _ _ _ _) (by
    have := Tr.path_ev hc
    unfold runT at this
    rw [this]
    exact go_none a)
/-- To of a kind that is none -/
theorem kind_none (op : Int) (hop : op = 11 ∨ op = 12) (a : AV) (h : 4 ≤ eTo a) : Says Tryz.prog G0 5 (rvL (shEnt op (.i .u8)) a 0) (.a [.n .i64 1, .n .u64 0, .n .u64 0, .n .u8 0]) := by
  have hto := u8_of (getI .u8 ((a.item 0).item 2)).2 rfl
  have key : decide (wrapF .i64 (eTo a) < 4) = false := decide_eq_false (by show ¬ (eTo a + 9223372036854775808) % 18446744073709551616 - 9223372036854775808 < 4; have : eTo a ≤ 255 := hto.2; omega)
  have done : ∀ p, (runT (rvL (shEnt op (.i .u8)) a 0)).cs p = p → (((runT (rvL (shEnt op (.i .u8)) a 0)).go p).ev.map okQ) = some (.a [.n .i64 1, .n .u64 0, .n .u64 0, .n .u8 0], true) → Says Tryz.prog G0 5 (rvL (shEnt op (.i .u8)) a 0) (.a [.n .i64 1, .n .u64 0, .n .u64 0, .n .u8 0]) := fun p hc hg => says_val (n := 3000) ext0_ok noNG litG0 CR_ok (rvL_sc _ _ _ _) (by
    have := Tr.path_ev hc
    unfold runT at this hg
    rw [this]
    exact hg)
  have c4 : (runT (rvL (shEnt op (.i .u8)) a 0)).cs [false, false, false, true] = [!(decide (wrapF .i64 (eF a) < 4)), !(decide (eM a ≤ 4)), decide (eTi a > 1), !(decide (wrapF .i64 (eTo a) < 4))] := by rcases hop with rfl | rfl <;> kernel_rfl
  have c3 : (runT (rvL (shEnt op (.i .u8)) a 0)).cs [false, false, true] = [!(decide (wrapF .i64 (eF a) < 4)), !(decide (eM a ≤ 4)), decide (eTi a > 1)] := by rcases hop with rfl | rfl <;> kernel_rfl
  have c2 : (runT (rvL (shEnt op (.i .u8)) a 0)).cs [false, true] = [!(decide (wrapF .i64 (eF a) < 4)), !(decide (eM a ≤ 4))] := by rcases hop with rfl | rfl <;> kernel_rfl
  have c1 : (runT (rvL (shEnt op (.i .u8)) a 0)).cs [true] = [!(decide (wrapF .i64 (eF a) < 4))] := by rcases hop with rfl | rfl <;> kernel_rfl
  cases e1 : (!(decide (wrapF .i64 (eF a) < 4))) with
  | true => exact done [true] (by rw [c1, e1]) (by rcases hop with rfl | rfl <;> kernel_rfl)
  | false =>
    cases e2 : (!(decide (eM a ≤ 4))) with
    | true => exact done [false, true] (by rw [c2, e1, e2]) (by rcases hop with rfl | rfl <;> kernel_rfl)
    | false =>
      cases e3 : (decide (eTi a > 1)) with
      | true => exact done [false, false, true] (by rw [c3, e1, e2, e3]) (by rcases hop with rfl | rfl <;> kernel_rfl)
      | false => exact done [false, false, false, true] (by rw [c4, e1, e2, e3, key]; rfl) (by rcases hop with rfl | rfl <;> kernel_rfl)
end Go.Proofs.YtpfoifflfgiaoaaGreatDoor
