/- What functions answer, by its shape. -/
import Derived.Test.YtpfoifflfgiaoaaGreatDoorK13
import Derived.KernelRfl
set_option linter.unusedVariables false
set_option linter.unusedSimpArgs false
namespace Go.Proofs.YtpfoifflfgiaoaaGreatDoor
open Go Go.RowKit Go.MapKept
def ext0 : Ext := fun _ _ => none
theorem ext0_ok : ExtOk Tryz.prog ext0 := ⟨fun _ _ _ _ _ _ _ _ h => (by cases h), fun _ _ _ _ _ _ _ _ h => (by cases h)⟩
theorem noNG : NoNG Tryz.prog := by
  have h : Tryz.prog.funcs.all (fun fn => !(fn.name == "runtime.NumGoroutine")) = true := by kernel_rfl
  intro f fn hf
  have := Array.all_eq_true.1 h f (Array.getElem?_eq_some_iff.1 hf).1
  rw [(Array.getElem?_eq_some_iff.1 hf).2] at this
  simpa using this
def G0 : Glob := [
  (0, [2147483648,2147483647,0,4294967295,9223372036854775808,9223372036854775807,0,18446744073709551615].map fun x => .n .u64 x),
  (1, [16,11,15,32,24,127,64,53,1023,128,113,16383].map fun x => .n .i64 x)]
theorem litG0 : litG G0 = true := rfl
def CW : Con := ⟨orcN, fun f args h => match orcN f args h with
  | some (r, []) => some fun K => K r
  | some _ => some fun _ => .fail
  | none => none⟩
theorem CW_ok : ConOk Tryz.prog G0 CW := by
  refine ⟨fun B W _ => orcN_ok, fun f args h => ⟨fun t ht K r hr => ?_, fun hn => ?_⟩⟩
  · simp only [CW] at ht ⊢
    split at ht
    · rename_i q hq
      cases ht
      exact ⟨q, hq, hr⟩
    · cases ht; cases hr
    · cases ht
  · simp only [CW] at hn ⊢
    split at hn
    · cases hn
    · cases hn
    · assumption
def shBits : Sh := .a [.i .u64, .i .u64]
def shWide : Sh := .a [.i .u64, .i .u64, .i .u64, .i .u64]
def shEnv : Sh := .a [.i .u8, .b]
def shRes : Sh := .a [.i .u64, .i .u64, .i .u8]
def shWhole : Sh := .a [.i .u64, .i .u8]
def shFmt : Sh := .a [.i .i64, .i .i64, .i .i64]
def shNum : Sh := .a [.b, .c .u8 [0, 1, 2, 3, 4, 5], .i .i64, .i .u64, .i .u64]
def shNumI : Sh := .a [.b, .i .u8, .i .i64, .i .u64, .i .u64]
def shTerm : Sh := .a [.i .i64, .i .u64, .i .u64, .i .u64, .i .u64]
def shPn : Sh := .a [.i .i64, .i .i64, .i .i64, .i .u64, .i .u64, .i .u64, .i .u64]
def shProd : Sh := .a [.i .i64, .i .u64, .i .u64, .i .u64, .i .u64, .b, .b, .b]

/-! terms -/
theorem tot_magexp : Tot Tryz.prog G0 263 [shTerm] (.i .i64) := tot_of 3000 ext0_ok noNG litG0 CW_ok fun a => by kernel_rfl
noncomputable def CE : Con := CW.add Tryz.prog G0 263 [shTerm] (.i .i64)
theorem CE_ok : ConOk Tryz.prog G0 CE := CW_ok.add tot_magexp
theorem tot_maglevel : Tot Tryz.prog G0 262 [shTerm, shTerm] (.i .i64) := tot_of 3000 ext0_ok noNG litG0 CE_ok fun a => by kernel_rfl
noncomputable def CL : Con := CE.add Tryz.prog G0 262 [shTerm, shTerm] (.i .i64)
theorem CL_ok : ConOk Tryz.prog G0 CL := CE_ok.add tot_maglevel
theorem tot_magCmp : Tot Tryz.prog G0 222 [shTerm, shTerm] (.i .i64) := tot_of 3000 ext0_ok noNG litG0 CL_ok fun a => by kernel_rfl
noncomputable def CC : Con := CL.add Tryz.prog G0 222 [shTerm, shTerm] (.i .i64)
theorem CC_ok : ConOk Tryz.prog G0 CC := CL_ok.add tot_magCmp
theorem tot_magSum : Tot Tryz.prog G0 150 [shTerm, shTerm] (shTerm) := tot_of 3000 ext0_ok noNG litG0 CC_ok fun a => by kernel_rfl
noncomputable def CS : Con := CC.add Tryz.prog G0 150 [shTerm, shTerm] (shTerm)
theorem CS_ok : ConOk Tryz.prog G0 CS := CC_ok.add tot_magSum
theorem tot_magDiff : Tot Tryz.prog G0 152 [shTerm, shTerm] (.t [shTerm, .b]) := tot_of 3000 ext0_ok noNG litG0 CS_ok fun a => by kernel_rfl
noncomputable def C0 : Con := CS.add Tryz.prog G0 152 [shTerm, shTerm] (.t [shTerm, .b])
theorem C0_ok : ConOk Tryz.prog G0 C0 := CS_ok.add tot_magDiff

/-- one arm of a tree -/
def Tr.cond {α : Type} : Tr α → Bool
  | .test c _ _ => c
  | _ => false
def Tr.thn {α : Type} : Tr α → Tr α
  | .test _ t _ => t
  | t => t
theorem Tr.thn_ev {α : Type} {t : Tr α} (h : t.cond = true) : t.ev = t.thn.ev := by
  cases t with
  | test c t f => simp only [Tr.cond] at h; simp [Tr.ev, Tr.thn, h]
  | _ => cases h
def Tr.go {α : Type} : List Bool → Tr α → Tr α
  | [], t => t
  | true :: l, .test _ t _ => t.go l
  | false :: l, .test _ _ f => f.go l
  | _ :: _, t => t
theorem Tr.go_two {α : Type} {p : α → Bool} : ∀ {l : List Bool} {t : Tr α}, (t.go (l ++ [true])).all p = true → (t.go (l ++ [false])).all p = true → (t.go l).all p = true
  | [], t, h1, h2 => by
    cases t with
    | test c t f => simp only [List.nil_append, Tr.go] at h1 h2; simp only [Tr.go, Tr.all, h1, h2, Bool.and_self]
    | _ => exact h1
  | b :: l, t, h1, h2 => by
    cases t with
    | test c t f =>
      cases b
      · exact Tr.go_two (l := l) (t := f) h1 h2
      · exact Tr.go_two (l := l) (t := t) h1 h2
    | _ => cases b <;> exact h1
theorem Tr.go_nil {α : Type} {p : α → Bool} {t : Tr α} (h : (t.go []).all p = true) : t.all p = true := h
theorem says_ev {P : Program} {x : Ext} {C : Con} {n : Nat} {G : Glob} {f : FuncId} {args : List AV} {q : Res} (hx : ExtOk P x) (hn : NoNG P) (hl : litG G = true) (hC : ConOk P G C) (ha : scL (fun _ => false) args = true)
    (h1 : (treeF P x C n G f args).ev = some q) (h2 : (q.1.sc (fun _ => false) && q.2.2.2.1.all id) = true) : Says P G f args q.1 := by
  simp only [Bool.and_eq_true] at h2
  refine fun e w hw => ?_
  obtain ⟨q', h3, h4⟩ := callC_ok hC.tr (execC_ok (P := P) (x := x) hC.tr drawnC_ok n) _ _ _ _ _ _ h1
  obtain rfl : q' = q := Option.some.inj h4
  obtain ⟨r, h', pa, ob, d⟩ := q'
  have hB := hC.ok w.heap.size w hw
  have hcl := callB_ok (P := P) (B := w.heap.size) (W := w) hB (exec_ok (x := x) hx hn hB (drawn_ok hx hn) n).1
  have hc := hcl _ _ _ _ _ _ _ _ _ h3 (fun b hb => by have := List.all_eq_true.1 h2.2 b hb; exact this) _ w (hw.sr hl) (scL_mono (fun _ h => by cases h) _ ha) (Below.refl _ _)
  rw [scL_none ha e _]
  refine hc.mono ?_
  rintro en w' ⟨e', rfl, h5, h6⟩
  exact ⟨by rw [sc_none h2.1 e' e], h6.below⟩
theorem tot_formatof : Tot Tryz.prog G0 181 [.i .u8] shFmt := fun a => by
  have hr := u8_of (getI .u8 (a.item 0)).2 rfl
  have lit : ∀ j : Int, (getI .u8 (a.item 0)).1 = j → (∃ r, fit shFmt r = true ∧ r.sc (fun _ => false) = true ∧ Says Tryz.prog G0 181 [.n .u8 j] r) → ∃ r, fit shFmt r = true ∧ r.sc (fun _ => false) = true ∧ Says Tryz.prog G0 181 (rvL [.i .u8] a 0) r := fun j hj ⟨r, g1, g2, g3⟩ => by
    refine ⟨r, g1, g2, fun e w hw => ?_⟩
    have := g3 e w hw
    simp only [denL, AV.den] at this
    simp only [rvL, rv, denL, AV.den, hj]
    exact this
  have one : ∀ j : Int, (treeF Tryz.prog ext0 C0 3000 G0 181 [.n .u8 j]).all (okR shFmt) = true → ∃ r, fit shFmt r = true ∧ r.sc (fun _ => false) = true ∧ Says Tryz.prog G0 181 [.n .u8 j] r := fun j h => by
    obtain ⟨q, g1, _, g3, g4⟩ := says (p := fun q => fit shFmt q.1) ext0_ok noNG litG0 C0_ok rfl h
    exact ⟨q.1, g1, g3, g4⟩
  by_cases h : 4 ≤ (getI .u8 (a.item 0)).1
  · have hc : (treeF Tryz.prog ext0 C0 3000 G0 181 (rvL [.i .u8] a 0)).cond = !(decide (wrapF .i64 (getI .u8 (a.item 0)).1 < 4)) := by kernel_rfl
    have hf : (treeF Tryz.prog ext0 C0 3000 G0 181 (rvL [.i .u8] a 0)).thn.all (okR shFmt) = true := by kernel_rfl
    have hc2 : (treeF Tryz.prog ext0 C0 3000 G0 181 (rvL [.i .u8] a 0)).cond = true := by
      have key : decide (wrapF .i64 (getI .u8 (a.item 0)).1 < 4) = false := decide_eq_false (by show ¬ ((getI .u8 (a.item 0)).1 + 9223372036854775808) % 18446744073709551616 - 9223372036854775808 < 4; omega)
      rw [hc, key]; rfl
    obtain ⟨q, g1, g2⟩ := Tr.all_ev hf
    simp only [okR, Bool.and_eq_true] at g2
    exact ⟨q.1, g2.2, g2.1.1, says_ev ext0_ok noNG litG0 C0_ok (rvL_sc _ _ _ _) ((Tr.thn_ev hc2).trans g1) (by simp only [Bool.and_eq_true]; exact g2.1)⟩
  · have hv : (getI .u8 (a.item 0)).1 = 0 ∨ (getI .u8 (a.item 0)).1 = 1 ∨ (getI .u8 (a.item 0)).1 = 2 ∨ (getI .u8 (a.item 0)).1 = 3 := by omega
    rcases hv with hv | hv | hv | hv
    · exact lit 0 hv (one 0 (by kernel_rfl))
    · exact lit 1 hv (one 1 (by kernel_rfl))
    · exact lit 2 hv (one 2 (by kernel_rfl))
    · exact lit 3 hv (one 3 (by kernel_rfl))
noncomputable def C1 : Con := C0.add Tryz.prog G0 181 [.i .u8] shFmt
theorem C1_ok : ConOk Tryz.prog G0 C1 := C0_ok.add tot_formatof
end Go.Proofs.YtpfoifflfgiaoaaGreatDoor
namespace Go.Proofs.YtpfoifflfgiaoaaGreatDoor
open Go Go.RowKit Go.MapKept
theorem tot_formatCutB : Tot Tryz.prog G0 72 [.i .u8, shBits] (shBits) := tot_of 3000 ext0_ok noNG litG0 C1_ok fun a => by kernel_rfl
noncomputable def C2 : Con := C1.add Tryz.prog G0 72 [.i .u8, shBits] (shBits)
theorem C2_ok : ConOk Tryz.prog G0 C2 := C1_ok.add tot_formatCutB
theorem tot_formatSplitziB : Tot Tryz.prog G0 137 [.i .u8, shBits] (.t [.b, .i .i64, shBits]) := tot_of 3000 ext0_ok noNG litG0 C2_ok fun a => by kernel_rfl
noncomputable def C3 : Con := C2.add Tryz.prog G0 137 [.i .u8, shBits] (.t [.b, .i .i64, shBits])
theorem C3_ok : ConOk Tryz.prog G0 C3 := C2_ok.add tot_formatSplitziB
theorem tot_formatMakeB : Tot Tryz.prog G0 147 [.i .u8, .b, .i .i64, shBits] (shBits) := tot_of 3000 ext0_ok noNG litG0 C3_ok fun a => by kernel_rfl
noncomputable def C4 : Con := C3.add Tryz.prog G0 147 [.i .u8, .b, .i .i64, shBits] (shBits)
theorem C4_ok : ConOk Tryz.prog G0 C4 := C3_ok.add tot_formatMakeB
theorem tot_formatInfB : Tot Tryz.prog G0 85 [.i .u8, .b] (shBits) := tot_of 3000 ext0_ok noNG litG0 C4_ok fun a => by kernel_rfl
noncomputable def C5 : Con := C4.add Tryz.prog G0 85 [.i .u8, .b] (shBits)
theorem C5_ok : ConOk Tryz.prog G0 C5 := C4_ok.add tot_formatInfB
theorem tot_formatMaxB : Tot Tryz.prog G0 231 [.i .u8, .b] (shBits) := tot_of 3000 ext0_ok noNG litG0 C5_ok fun a => by kernel_rfl
noncomputable def C6 : Con := C5.add Tryz.prog G0 231 [.i .u8, .b] (shBits)
theorem C6_ok : ConOk Tryz.prog G0 C6 := C5_ok.add tot_formatMaxB
theorem tot_formatNoughtB : Tot Tryz.prog G0 98 [.i .u8, .b] (shBits) := tot_of 3000 ext0_ok noNG litG0 C6_ok fun a => by kernel_rfl
noncomputable def C7 : Con := C6.add Tryz.prog G0 98 [.i .u8, .b] (shBits)
theorem C7_ok : ConOk Tryz.prog G0 C7 := C6_ok.add tot_formatNoughtB
end Go.Proofs.YtpfoifflfgiaoaaGreatDoor
namespace Go.Proofs.YtpfoifflfgiaoaaGreatDoor
open Go Go.RowKit Go.MapKept
theorem tot_classOfcz : Tot Tryz.prog G0 135 [.i .u8, shBits] (.t [.c .u8 [0, 1, 2, 3, 4, 5], .b]) := tot_of 3000 ext0_ok noNG litG0 C7_ok fun a => by kernel_rfl
noncomputable def C8 : Con := C7.add Tryz.prog G0 135 [.i .u8, shBits] (.t [.c .u8 [0, 1, 2, 3, 4, 5], .b])
theorem C8_ok : ConOk Tryz.prog G0 C8 := C7_ok.add tot_classOfcz
theorem tot_classOfrz : Tot Tryz.prog G0 135 [.i .u8, shBits] (.t [.i .u8, .b]) := tot_of 3000 ext0_ok noNG litG0 C8_ok fun a => by kernel_rfl
noncomputable def C9 : Con := C8.add Tryz.prog G0 135 [.i .u8, shBits] (.t [.i .u8, .b])
theorem C9_ok : ConOk Tryz.prog G0 C9 := C8_ok.add tot_classOfrz
theorem tot_classNaNz : Tot Tryz.prog G0 87 [.i .u8, shBits] (.b) := tot_of 3000 ext0_ok noNG litG0 C9_ok fun a => by kernel_rfl
noncomputable def C10 : Con := C9.add Tryz.prog G0 87 [.i .u8, shBits] (.b)
theorem C10_ok : ConOk Tryz.prog G0 C10 := C9_ok.add tot_classNaNz
theorem tot_classSignalingz : Tot Tryz.prog G0 122 [.i .u8, shBits] (.b) := tot_of 3000 ext0_ok noNG litG0 C10_ok fun a => by kernel_rfl
noncomputable def C11 : Con := C10.add Tryz.prog G0 122 [.i .u8, shBits] (.b)
theorem C11_ok : ConOk Tryz.prog G0 C11 := C10_ok.add tot_classSignalingz
theorem tot_countRaiseBi : Tot Tryz.prog G0 141 [shBits] (.t [shBits, .i .i64]) := tot_of 3000 ext0_ok noNG litG0 C11_ok fun a => by kernel_rfl
noncomputable def C12 : Con := C11.add Tryz.prog G0 141 [shBits] (.t [shBits, .i .i64])
theorem C12_ok : ConOk Tryz.prog G0 C12 := C11_ok.add tot_countRaiseBi
theorem tot_countWideRaiseWi : Tot Tryz.prog G0 226 [shWide] (.t [shWide, .i .i64]) := tot_of 3000 ext0_ok noNG litG0 C12_ok fun a => by kernel_rfl
noncomputable def C13 : Con := C12.add Tryz.prog G0 226 [shWide] (.t [shWide, .i .i64])
theorem C13_ok : ConOk Tryz.prog G0 C13 := C12_ok.add tot_countWideRaiseWi
noncomputable def C14 : Con := C13.add Tryz.prog G0 135 [.i .u8, shBits] (.t [.c .u8 [0, 1, 2, 3, 4, 5], .b])
theorem C14_ok : ConOk Tryz.prog G0 C14 := C13_ok.add tot_classOfcz
theorem tot_fieldsUnpackC : Tot Tryz.prog G0 83 [.i .u8, shBits] (shNum) := tot_of 3000 ext0_ok noNG litG0 C14_ok fun a => by kernel_rfl
noncomputable def C15 : Con := C14.add Tryz.prog G0 83 [.i .u8, shBits] (shNum)
theorem C15_ok : ConOk Tryz.prog G0 C15 := C14_ok.add tot_fieldsUnpackC
theorem tot_nanQuietB : Tot Tryz.prog G0 146 [.i .u8, shBits] (shBits) := tot_of 3000 ext0_ok noNG litG0 C15_ok fun a => by kernel_rfl
noncomputable def C16 : Con := C15.add Tryz.prog G0 146 [.i .u8, shBits] (shBits)
theorem C16_ok : ConOk Tryz.prog G0 C16 := C15_ok.add tot_nanQuietB
theorem tot_nanDefaultB : Tot Tryz.prog G0 145 [.i .u8] (shBits) := tot_of 3000 ext0_ok noNG litG0 C16_ok fun a => by kernel_rfl
noncomputable def C17 : Con := C16.add Tryz.prog G0 145 [.i .u8] (shBits)
theorem C17_ok : ConOk Tryz.prog G0 C17 := C16_ok.add tot_nanDefaultB
end Go.Proofs.YtpfoifflfgiaoaaGreatDoor
namespace Go.Proofs.YtpfoifflfgiaoaaGreatDoor
open Go Go.RowKit Go.MapKept
theorem tot_overOverR : Tot Tryz.prog G0 163 [.i .u8, .i .u8, .b] (shRes) := tot_of 3000 ext0_ok noNG litG0 C17_ok fun a => by kernel_rfl
noncomputable def C18 : Con := C17.add Tryz.prog G0 163 [.i .u8, .i .u8, .b] (shRes)
theorem C18_ok : ConOk Tryz.prog G0 C18 := C17_ok.add tot_overOverR
theorem tot_overBeyondz : Tot Tryz.prog G0 162 [.i .u8, .i .i64] (.b) := tot_of 3000 ext0_ok noNG litG0 C18_ok fun a => by kernel_rfl
noncomputable def C19 : Con := C18.add Tryz.prog G0 162 [.i .u8, .i .i64] (.b)
theorem C19_ok : ConOk Tryz.prog G0 C19 := C18_ok.add tot_overBeyondz
theorem tot_packofp : Tot Tryz.prog G0 158 [.i .u8, .i .i64, shWide] (shPn) := tot_of 3000 ext0_ok noNG litG0 C19_ok fun a => by kernel_rfl
noncomputable def C20 : Con := C19.add Tryz.prog G0 158 [.i .u8, .i .i64, shWide] (shPn)
theorem C20_ok : ConOk Tryz.prog G0 C20 := C19_ok.add tot_packofp
theorem tot_packputB : Tot Tryz.prog G0 165 [.i .u8, .b, .i .i64, shBits] (shBits) := tot_of 3000 ext0_ok noNG litG0 C20_ok fun a => by kernel_rfl
noncomputable def C21 : Con := C20.add Tryz.prog G0 165 [.i .u8, .b, .i .i64, shBits] (shBits)
theorem C21_ok : ConOk Tryz.prog G0 C21 := C20_ok.add tot_packputB
theorem tot_packRoundR : Tot Tryz.prog G0 92 [.i .u8, shEnv, .b, .i .i64, shWide] (shRes) := tot_of 3000 ext0_ok noNG litG0 C21_ok fun a => by kernel_rfl
noncomputable def C22 : Con := C21.add Tryz.prog G0 92 [.i .u8, shEnv, .b, .i .i64, shWide] (shRes)
theorem C22_ok : ConOk Tryz.prog G0 C22 := C21_ok.add tot_packRoundR
end Go.Proofs.YtpfoifflfgiaoaaGreatDoor
