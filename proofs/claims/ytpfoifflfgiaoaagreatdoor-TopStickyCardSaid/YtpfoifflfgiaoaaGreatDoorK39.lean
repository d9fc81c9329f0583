/- Entries that are known: table.Run. -/
import Derived.Test.YtpfoifflfgiaoaaGreatDoorK38
set_option linter.unusedVariables false
set_option linter.unusedSimpArgs false
namespace Go.Proofs.YtpfoifflfgiaoaaGreatDoor
open Go Go.RowKit Go.MapKept

def orc_fma : Orc := fun f args h => if f = 52 then match args with
    | [.n .u8 0, .a [.n .u8 0, .b false], .a [.n .u64 0, .n .u64 a], .a [.n .u64 0, .n .u64 b], .a [.n .u64 0, .n .u64 c]] => if a = 15361 ∧ b = 15361 ∧ c = 48130 then some (.a [.n .u64 0, .n .u64 16, .n .u8 0], []) else none
    | _ => none
  else orcN f args h
theorem orc_fma_ok (B : Nat) (W : World) (hG : GOk G0 B W) : OrcOk Tryz.prog B W orc_fma := by
  intro f args h r ob hr ho e w hs hb
  unfold orc_fma at hr
  split at hr
  · rename_i hf; subst hf
    split at hr <;> try cases hr
    split at hr <;> try cases hr
    rename_i hh
    obtain ⟨rfl, rfl, rfl⟩ := hh
    exact in_fma e w (hG.below hb hs.size)
  · exact orcN_ok f args h r ob hr ho e w hs hb
theorem lit_fma : Says Tryz.prog G0 5 [litE 6 15361 15361 48130] (litO 0 16 0) := says_plain ext0_ok noNG litG0 orc_fma_ok (by rfl) (by kernel_rfl)
end Go.Proofs.YtpfoifflfgiaoaaGreatDoor
