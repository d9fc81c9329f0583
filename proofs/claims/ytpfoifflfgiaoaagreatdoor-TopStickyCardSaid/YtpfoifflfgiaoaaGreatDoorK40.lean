/- Entries that are known: what the operations answer. -/
import Derived.Test.YtpfoifflfgiaoaaGreatDoorK39
set_option linter.unusedVariables false
set_option linter.unusedSimpArgs false
namespace Go.Proofs.YtpfoifflfgiaoaaGreatDoor
open Go Go.RowKit Go.MapKept

theorem in_sqrt : Says Tryz.prog G0 50 [.n .u8 0, .a [.n .u8 0, .b false], .a [.n .u64 0, .n .u64 16384]] (.a [.n .u64 0, .n .u64 15784, .n .u8 16]) := says_plain ext0_ok noNG litG0 orcN_any (by rfl) (by kernel_rfl)
end Go.Proofs.YtpfoifflfgiaoaaGreatDoor
