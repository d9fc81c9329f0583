/- Entries that are known: what the operations answer. -/
import Derived.Test.YtpfoifflfgiaoaaGreatDoorK14
set_option linter.unusedVariables false
set_option linter.unusedSimpArgs false
namespace Go.Proofs.YtpfoifflfgiaoaaGreatDoor
open Go Go.RowKit Go.MapKept

def plainQ (o : Option (AV × List Blk × List Nat × List Bool × List Nat)) : Option AV := match o with
  | some (r, _, _, ob, _) => if ob.all id && r.sc (fun _ => false) then some r else none
  | none => none
noncomputable def plainR (P : Program) (x : Ext) (orc : Orc) (G : Glob) (f : FuncId) (args : List AV) : Option AV := plainQ (callB P orc (exec P x orc (drawnA P x) 3000) f args (hOf G) [])
/-- what the plain evaluator answers is said -/
theorem says_plain {P : Program} {x : Ext} {orc : Orc} {G : Glob} {f : FuncId} {args : List AV} {v : AV} (hx : ExtOk P x) (hn : NoNG P) (hl : litG G = true) (hor : ∀ B W, GOk G B W → OrcOk P B W orc) (ha : scL (fun _ => false) args = true)
    (h : plainR P x orc G f args = some v) : Says P G f args v := fun e w hw => by
  unfold plainR plainQ at h
  split at h <;> try cases h
  rename_i r h' pa ob d hq
  split at h <;> try cases h
  rename_i hh
  simp only [Bool.and_eq_true] at hh
  have hB := hor w.heap.size w hw
  have hcl := callB_ok (P := P) (B := w.heap.size) (W := w) hB (exec_ok (x := x) hx hn hB (drawn_ok hx hn) 3000).1
  have hc := hcl _ _ _ _ _ _ _ _ _ hq (fun b hb => by have := List.all_eq_true.1 hh.1 b hb; exact this) _ w (hw.sr hl) (scL_mono (fun _ h => by cases h) _ ha) (Below.refl _ _)
  rw [scL_none ha e _]
  refine hc.mono ?_
  rintro en w' ⟨e', rfl, h5, h6⟩
  exact ⟨by rw [sc_none hh.2 e' e], h6.below⟩
theorem orcN_any (B : Nat) (W : World) (_ : GOk G0 B W) : OrcOk Tryz.prog B W orcN := orcN_ok
def litE (op a b c : Int) : AV := .a [.n .u8 op, .n .u8 0, .n .u8 0, .n .u8 0, .n .u8 0, .n .u64 0, .n .u64 a, .n .u64 0, .n .u64 b, .n .u64 0, .n .u64 c]
def litO (e lo fl : Int) : AV := .a [.n .i64 e, .n .u64 0, .n .u64 lo, .n .u8 fl]
end Go.Proofs.YtpfoifflfgiaoaaGreatDoor
namespace Go.Proofs.YtpfoifflfgiaoaaGreatDoor
open Go Go.RowKit Go.MapKept

theorem in_add : Says Tryz.prog G0 42 [.n .u8 0, .a [.n .u8 0, .b false], .a [.n .u64 0, .n .u64 15360], .a [.n .u64 0, .n .u64 15360]] (.a [.n .u64 0, .n .u64 16384, .n .u8 0]) := says_plain ext0_ok noNG litG0 orcN_any (by rfl) (by kernel_rfl)
end Go.Proofs.YtpfoifflfgiaoaaGreatDoor
