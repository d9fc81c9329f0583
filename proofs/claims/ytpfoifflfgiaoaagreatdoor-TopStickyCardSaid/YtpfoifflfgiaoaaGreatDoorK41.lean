/- Entries that are known: table.Run. -/
import Derived.Test.YtpfoifflfgiaoaaGreatDoorK40
set_option linter.unusedVariables false
set_option linter.unusedSimpArgs false
namespace Go.Proofs.YtpfoifflfgiaoaaGreatDoor
open Go Go.RowKit Go.MapKept

def orc_sqrt : Orc := fun f args h => if f = 50 then match args with
    | [.n .u8 0, .a [.n .u8 0, .b false], .a [.n .u64 0, .n .u64 a]] => if a = 16384 then some (.a [.n .u64 0, .n .u64 15784, .n .u8 16], []) else none
    | _ => none
  else orcN f args h
theorem orc_sqrt_ok (B : Nat) (W : World) (hG : GOk G0 B W) : OrcOk Tryz.prog B W orc_sqrt := by
  intro f args h r ob hr ho e w hs hb
  unfold orc_sqrt at hr
  split at hr
  · rename_i hf; subst hf
    split at hr <;> try cases hr
    split at hr <;> try cases hr
    rename_i hh
    obtain ⟨rfl⟩ := hh
    exact in_sqrt e w (hG.below hb hs.size)
  · exact orcN_ok f args h r ob hr ho e w hs hb
theorem lit_sqrt : Says Tryz.prog G0 5 [litE 5 16384 0 0] (litO 0 15784 16) := says_plain ext0_ok noNG litG0 orc_sqrt_ok (by rfl) (by kernel_rfl)
end Go.Proofs.YtpfoifflfgiaoaaGreatDoor
