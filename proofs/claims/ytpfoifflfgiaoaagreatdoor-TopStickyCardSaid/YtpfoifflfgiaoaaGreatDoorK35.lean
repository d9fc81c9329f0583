/- Entries that are known: table.Run. -/
import Derived.Test.YtpfoifflfgiaoaaGreatDoorK34
set_option linter.unusedVariables false
set_option linter.unusedSimpArgs false
namespace Go.Proofs.YtpfoifflfgiaoaaGreatDoor
open Go Go.RowKit Go.MapKept

def orc_add : Orc := fun f args h => if f = 42 then match args with
    | [.n .u8 0, .a [.n .u8 0, .b false], .a [.n .u64 0, .n .u64 a], .a [.n .u64 0, .n .u64 b]] => if a = 15360 ∧ b = 15360 then some (.a [.n .u64 0, .n .u64 16384, .n .u8 0], []) else none
    | _ => none
  else orcN f args h
theorem orc_add_ok (B : Nat) (W : World) (hG : GOk G0 B W) : OrcOk Tryz.prog B W orc_add := by
  intro f args h r ob hr ho e w hs hb
  unfold orc_add at hr
  split at hr
  · rename_i hf; subst hf
    split at hr <;> try cases hr
    split at hr <;> try cases hr
    rename_i hh
    obtain ⟨rfl, rfl⟩ := hh
    exact in_add e w (hG.below hb hs.size)
  · exact orcN_ok f args h r ob hr ho e w hs hb
theorem lit_add : Says Tryz.prog G0 5 [litE 1 15360 15360 0] (litO 0 16384 0) := says_plain ext0_ok noNG litG0 orc_add_ok (by rfl) (by kernel_rfl)
end Go.Proofs.YtpfoifflfgiaoaaGreatDoor
