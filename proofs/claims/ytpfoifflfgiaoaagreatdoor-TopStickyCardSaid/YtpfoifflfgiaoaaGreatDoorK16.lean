/- What functions answer, by its shape. -/
import Derived.Test.YtpfoifflfgiaoaaGreatDoorK15
set_option linter.unusedVariables false
set_option linter.unusedSimpArgs false
namespace Go.Proofs.YtpfoifflfgiaoaaGreatDoor
open Go Go.RowKit Go.MapKept
theorem tot_fieldsUnpackN : Tot Tryz.prog G0 83 [.i .u8, shBits] (shNumI) := tot_of 3000 ext0_ok noNG litG0 C24_ok fun a => by kernel_rfl
noncomputable def C25 : Con := C24.add Tryz.prog G0 83 [.i .u8, shBits] (shNumI)
theorem C25_ok : ConOk Tryz.prog G0 C25 := C24_ok.add tot_fieldsUnpackN
theorem tot_addsubTurnB : Tot Tryz.prog G0 88 [.i .u8, shBits] (shBits) := tot_of 3000 ext0_ok noNG litG0 C25_ok fun a => by kernel_rfl
noncomputable def C26 : Con := C25.add Tryz.prog G0 88 [.i .u8, shBits] (shBits)
theorem C26_ok : ConOk Tryz.prog G0 C26 := C25_ok.add tot_addsubTurnB
theorem tot_addsubNoughtz : Tot Tryz.prog G0 154 [shEnv, .b, .b] (.b) := tot_of 3000 ext0_ok noNG litG0 C26_ok fun a => by kernel_rfl
noncomputable def C27 : Con := C26.add Tryz.prog G0 154 [shEnv, .b, .b] (.b)
theorem C27_ok : ConOk Tryz.prog G0 C27 := C26_ok.add tot_addsubNoughtz
theorem tot_addsubfiniteR : Tot Tryz.prog G0 86 [.i .u8, shEnv, shNumI, shNumI] (shRes) := tot_of 3000 ext0_ok noNG litG0 C27_ok fun a => by kernel_rfl
noncomputable def C28 : Con := C27.add Tryz.prog G0 86 [.i .u8, shEnv, shNumI, shNumI] (shRes)
theorem C28_ok : ConOk Tryz.prog G0 C28 := C27_ok.add tot_addsubfiniteR
theorem tot_addsubAddR : Tot Tryz.prog G0 42 [.i .u8, shEnv, shBits, shBits] (shRes) := tot_of 3000 ext0_ok noNG litG0 C28_ok fun a => by kernel_rfl
noncomputable def C29 : Con := C28.add Tryz.prog G0 42 [.i .u8, shEnv, shBits, shBits] (shRes)
theorem C29_ok : ConOk Tryz.prog G0 C29 := C28_ok.add tot_addsubAddR
theorem tot_addsubSubR : Tot Tryz.prog G0 44 [.i .u8, shEnv, shBits, shBits] (shRes) := tot_of 3000 ext0_ok noNG litG0 C29_ok fun a => by kernel_rfl
noncomputable def C30 : Con := C29.add Tryz.prog G0 44 [.i .u8, shEnv, shBits, shBits] (shRes)
theorem C30_ok : ConOk Tryz.prog G0 C30 := C29_ok.add tot_addsubSubR
theorem tot_mulBadz : Tot Tryz.prog G0 89 [shNumI, shNumI] (.b) := tot_of 3000 ext0_ok noNG litG0 C30_ok fun a => by kernel_rfl
noncomputable def C31 : Con := C30.add Tryz.prog G0 89 [shNumI, shNumI] (.b)
theorem C31_ok : ConOk Tryz.prog G0 C31 := C30_ok.add tot_mulBadz
end Go.Proofs.YtpfoifflfgiaoaaGreatDoor
namespace Go.Proofs.YtpfoifflfgiaoaaGreatDoor
open Go Go.RowKit Go.MapKept
theorem tot_mulTermiW : Tot Tryz.prog G0 91 [shNumI, shNumI] (.t [.i .i64, shWide]) := tot_of 3000 ext0_ok noNG litG0 C31_ok fun a => by kernel_rfl
noncomputable def C32 : Con := C31.add Tryz.prog G0 91 [shNumI, shNumI] (.t [.i .i64, shWide])
theorem C32_ok : ConOk Tryz.prog G0 C32 := C31_ok.add tot_mulTermiW
theorem tot_mulMulR : Tot Tryz.prog G0 46 [.i .u8, shEnv, shBits, shBits] (shRes) := tot_of 3000 ext0_ok noNG litG0 C32_ok fun a => by kernel_rfl
noncomputable def C33 : Con := C32.add Tryz.prog G0 46 [.i .u8, shEnv, shBits, shBits] (shRes)
theorem C33_ok : ConOk Tryz.prog G0 C33 := C32_ok.add tot_mulMulR
end Go.Proofs.YtpfoifflfgiaoaaGreatDoor
