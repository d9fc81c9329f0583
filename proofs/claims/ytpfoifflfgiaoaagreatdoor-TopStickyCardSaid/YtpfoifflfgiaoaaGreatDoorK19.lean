/- What functions answer, by its shape. -/
import Derived.Test.YtpfoifflfgiaoaaGreatDoorK18
set_option linter.unusedVariables false
set_option linter.unusedSimpArgs false
namespace Go.Proofs.YtpfoifflfgiaoaaGreatDoor
open Go Go.RowKit Go.MapKept
theorem tot_fmaFmaR_p001110110001 (a : AV) : ((treeF Tryz.prog ext0 C36 3000 G0 52 (rvL [.i .u8, shEnv, shBits, shBits, shBits] a 0)).go [false, false, true, true, true, false, true, true, false, false, false, true]).all (okR (shRes)) = true := by kernel_rfl
theorem tot_fmaFmaR_p001110110000 (a : AV) : ((treeF Tryz.prog ext0 C36 3000 G0 52 (rvL [.i .u8, shEnv, shBits, shBits, shBits] a 0)).go [false, false, true, true, true, false, true, true, false, false, false, false]).all (okR (shRes)) = true := by kernel_rfl
theorem tot_fmaFmaR_p0011101011 (a : AV) : ((treeF Tryz.prog ext0 C36 3000 G0 52 (rvL [.i .u8, shEnv, shBits, shBits, shBits] a 0)).go [false, false, true, true, true, false, true, false, true, true]).all (okR (shRes)) = true := by kernel_rfl
theorem tot_fmaFmaR_p00111010101 (a : AV) : ((treeF Tryz.prog ext0 C36 3000 G0 52 (rvL [.i .u8, shEnv, shBits, shBits, shBits] a 0)).go [false, false, true, true, true, false, true, false, true, false, true]).all (okR (shRes)) = true := by kernel_rfl
theorem tot_fmaFmaR_p001110101001 (a : AV) : ((treeF Tryz.prog ext0 C36 3000 G0 52 (rvL [.i .u8, shEnv, shBits, shBits, shBits] a 0)).go [false, false, true, true, true, false, true, false, true, false, false, true]).all (okR (shRes)) = true := by kernel_rfl
theorem tot_fmaFmaR_p0011101010001 (a : AV) : ((treeF Tryz.prog ext0 C36 3000 G0 52 (rvL [.i .u8, shEnv, shBits, shBits, shBits] a 0)).go [false, false, true, true, true, false, true, false, true, false, false, false, true]).all (okR (shRes)) = true := by kernel_rfl
end Go.Proofs.YtpfoifflfgiaoaaGreatDoor
namespace Go.Proofs.YtpfoifflfgiaoaaGreatDoor
open Go Go.RowKit Go.MapKept
theorem tot_fmaFmaR_p0011101010000 (a : AV) : ((treeF Tryz.prog ext0 C36 3000 G0 52 (rvL [.i .u8, shEnv, shBits, shBits, shBits] a 0)).go [false, false, true, true, true, false, true, false, true, false, false, false, false]).all (okR (shRes)) = true := by kernel_rfl
theorem tot_fmaFmaR_p00111010011 (a : AV) : ((treeF Tryz.prog ext0 C36 3000 G0 52 (rvL [.i .u8, shEnv, shBits, shBits, shBits] a 0)).go [false, false, true, true, true, false, true, false, false, true, true]).all (okR (shRes)) = true := by kernel_rfl
theorem tot_fmaFmaR_p001110100101 (a : AV) : ((treeF Tryz.prog ext0 C36 3000 G0 52 (rvL [.i .u8, shEnv, shBits, shBits, shBits] a 0)).go [false, false, true, true, true, false, true, false, false, true, false, true]).all (okR (shRes)) = true := by kernel_rfl
theorem tot_fmaFmaR_p0011101001001 (a : AV) : ((treeF Tryz.prog ext0 C36 3000 G0 52 (rvL [.i .u8, shEnv, shBits, shBits, shBits] a 0)).go [false, false, true, true, true, false, true, false, false, true, false, false, true]).all (okR (shRes)) = true := by kernel_rfl
theorem tot_fmaFmaR_p00111010010001 (a : AV) : ((treeF Tryz.prog ext0 C36 3000 G0 52 (rvL [.i .u8, shEnv, shBits, shBits, shBits] a 0)).go [false, false, true, true, true, false, true, false, false, true, false, false, false, true]).all (okR (shRes)) = true := by kernel_rfl
theorem tot_fmaFmaR_p00111010010000 (a : AV) : ((treeF Tryz.prog ext0 C36 3000 G0 52 (rvL [.i .u8, shEnv, shBits, shBits, shBits] a 0)).go [false, false, true, true, true, false, true, false, false, true, false, false, false, false]).all (okR (shRes)) = true := by kernel_rfl
end Go.Proofs.YtpfoifflfgiaoaaGreatDoor
