/- What functions answer, by its shape. -/
import Derived.Test.YtpfoifflfgiaoaaGreatDoorK17
set_option linter.unusedVariables false
set_option linter.unusedSimpArgs false
namespace Go.Proofs.YtpfoifflfgiaoaaGreatDoor
open Go Go.RowKit Go.MapKept
theorem tot_fmaproductplusTz : Tot Tryz.prog G0 104 [shProd, shEnv, shNumI] (.t [shTerm, .b]) := tot_of 3000 ext0_ok noNG litG0 C35_ok fun a => by kernel_rfl
noncomputable def C36 : Con := C35.add Tryz.prog G0 104 [shProd, shEnv, shNumI] (.t [shTerm, .b])
theorem C36_ok : ConOk Tryz.prog G0 C36 := C35_ok.add tot_fmaproductplusTz
end Go.Proofs.YtpfoifflfgiaoaaGreatDoor
namespace Go.Proofs.YtpfoifflfgiaoaaGreatDoor
open Go Go.RowKit Go.MapKept
theorem tot_fmaFmaR_p1 (a : AV) : ((treeF Tryz.prog ext0 C36 3000 G0 52 (rvL [.i .u8, shEnv, shBits, shBits, shBits] a 0)).go [true]).all (okR (shRes)) = true := by kernel_rfl
theorem tot_fmaFmaR_p01 (a : AV) : ((treeF Tryz.prog ext0 C36 3000 G0 52 (rvL [.i .u8, shEnv, shBits, shBits, shBits] a 0)).go [false, true]).all (okR (shRes)) = true := by kernel_rfl
theorem tot_fmaFmaR_p001111 (a : AV) : ((treeF Tryz.prog ext0 C36 3000 G0 52 (rvL [.i .u8, shEnv, shBits, shBits, shBits] a 0)).go [false, false, true, true, true, true]).all (okR (shRes)) = true := by kernel_rfl
theorem tot_fmaFmaR_p001110111 (a : AV) : ((treeF Tryz.prog ext0 C36 3000 G0 52 (rvL [.i .u8, shEnv, shBits, shBits, shBits] a 0)).go [false, false, true, true, true, false, true, true, true]).all (okR (shRes)) = true := by kernel_rfl
theorem tot_fmaFmaR_p0011101101 (a : AV) : ((treeF Tryz.prog ext0 C36 3000 G0 52 (rvL [.i .u8, shEnv, shBits, shBits, shBits] a 0)).go [false, false, true, true, true, false, true, true, false, true]).all (okR (shRes)) = true := by kernel_rfl
theorem tot_fmaFmaR_p00111011001 (a : AV) : ((treeF Tryz.prog ext0 C36 3000 G0 52 (rvL [.i .u8, shEnv, shBits, shBits, shBits] a 0)).go [false, false, true, true, true, false, true, true, false, false, true]).all (okR (shRes)) = true := by kernel_rfl
end Go.Proofs.YtpfoifflfgiaoaaGreatDoor
