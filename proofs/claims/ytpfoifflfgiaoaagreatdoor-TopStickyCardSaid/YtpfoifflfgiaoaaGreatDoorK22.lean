/- What rem.Rem answers, part by part. -/
import Derived.Test.YtpfoifflfgiaoaaGreatDoorK20
set_option linter.unusedVariables false
set_option linter.unusedSimpArgs false
namespace Go.Proofs.YtpfoifflfgiaoaaGreatDoor
open Go Go.RowKit Go.MapKept
theorem tot_remRemR_p01110 (a : AV) : ((treeF Tryz.prog ext0 C37 3000 G0 54 (rvL [.i .u8, shBits, shBits] a 0)).go [false, true, true, true, false]).all (okR (shRes)) = true := by kernel_rfl
theorem tot_remRemR_p01010 (a : AV) : ((treeF Tryz.prog ext0 C37 3000 G0 54 (rvL [.i .u8, shBits, shBits] a 0)).go [false, true, false, true, false]).all (okR (shRes)) = true := by kernel_rfl
theorem tot_remRemR_p010000 (a : AV) : ((treeF Tryz.prog ext0 C37 3000 G0 54 (rvL [.i .u8, shBits, shBits] a 0)).go [false, true, false, false, false, false]).all (okR (shRes)) = true := by kernel_rfl
theorem tot_remRemR_p0010111 (a : AV) : ((treeF Tryz.prog ext0 C37 3000 G0 54 (rvL [.i .u8, shBits, shBits] a 0)).go [false, false, true, false, true, true, true]).all (okR (shRes)) = true := by kernel_rfl
theorem tot_remRemR_p0010010 (a : AV) : ((treeF Tryz.prog ext0 C37 3000 G0 54 (rvL [.i .u8, shBits, shBits] a 0)).go [false, false, true, false, false, true, false]).all (okR (shRes)) = true := by kernel_rfl
theorem tot_remRemR_p0001110 (a : AV) : ((treeF Tryz.prog ext0 C37 3000 G0 54 (rvL [.i .u8, shBits, shBits] a 0)).go [false, false, false, true, true, true, false]).all (okR (shRes)) = true := by kernel_rfl
theorem tot_remRemR_p0001010 (a : AV) : ((treeF Tryz.prog ext0 C37 3000 G0 54 (rvL [.i .u8, shBits, shBits] a 0)).go [false, false, false, true, false, true, false]).all (okR (shRes)) = true := by kernel_rfl
theorem tot_remRemR_p0000111 (a : AV) : ((treeF Tryz.prog ext0 C37 3000 G0 54 (rvL [.i .u8, shBits, shBits] a 0)).go [false, false, false, false, true, true, true]).all (okR (shRes)) = true := by kernel_rfl
theorem tot_remRemR_p00000110 (a : AV) : ((treeF Tryz.prog ext0 C37 3000 G0 54 (rvL [.i .u8, shBits, shBits] a 0)).go [false, false, false, false, false, true, true, false]).all (okR (shRes)) = true := by kernel_rfl
theorem tot_remRemR_p000000011 (a : AV) : ((treeF Tryz.prog ext0 C37 3000 G0 54 (rvL [.i .u8, shBits, shBits] a 0)).go [false, false, false, false, false, false, false, true, true]).all (okR (shRes)) = true := by kernel_rfl
end Go.Proofs.YtpfoifflfgiaoaaGreatDoor
namespace Go.Proofs.YtpfoifflfgiaoaaGreatDoor
open Go Go.RowKit Go.MapKept
theorem tot_remRemR_p0110 (a : AV) : ((treeF Tryz.prog ext0 C37 3000 G0 54 (rvL [.i .u8, shBits, shBits] a 0)).go [false, true, true, false]).all (okR (shRes)) = true := by kernel_rfl
theorem tot_remRemR_p010011 (a : AV) : ((treeF Tryz.prog ext0 C37 3000 G0 54 (rvL [.i .u8, shBits, shBits] a 0)).go [false, true, false, false, true, true]).all (okR (shRes)) = true := by kernel_rfl
theorem tot_remRemR_p001111 (a : AV) : ((treeF Tryz.prog ext0 C37 3000 G0 54 (rvL [.i .u8, shBits, shBits] a 0)).go [false, false, true, true, true, true]).all (okR (shRes)) = true := by kernel_rfl
theorem tot_remRemR_p0010110 (a : AV) : ((treeF Tryz.prog ext0 C37 3000 G0 54 (rvL [.i .u8, shBits, shBits] a 0)).go [false, false, true, false, true, true, false]).all (okR (shRes)) = true := by kernel_rfl
theorem tot_remRemR_p0010001 (a : AV) : ((treeF Tryz.prog ext0 C37 3000 G0 54 (rvL [.i .u8, shBits, shBits] a 0)).go [false, false, true, false, false, false, true]).all (okR (shRes)) = true := by kernel_rfl
theorem tot_remRemR_p000110 (a : AV) : ((treeF Tryz.prog ext0 C37 3000 G0 54 (rvL [.i .u8, shBits, shBits] a 0)).go [false, false, false, true, true, false]).all (okR (shRes)) = true := by kernel_rfl
theorem tot_remRemR_p00010011 (a : AV) : ((treeF Tryz.prog ext0 C37 3000 G0 54 (rvL [.i .u8, shBits, shBits] a 0)).go [false, false, false, true, false, false, true, true]).all (okR (shRes)) = true := by kernel_rfl
theorem tot_remRemR_p0000110 (a : AV) : ((treeF Tryz.prog ext0 C37 3000 G0 54 (rvL [.i .u8, shBits, shBits] a 0)).go [false, false, false, false, true, true, false]).all (okR (shRes)) = true := by kernel_rfl
theorem tot_remRemR_p0000010 (a : AV) : ((treeF Tryz.prog ext0 C37 3000 G0 54 (rvL [.i .u8, shBits, shBits] a 0)).go [false, false, false, false, false, true, false]).all (okR (shRes)) = true := by kernel_rfl
theorem tot_remRemR_p000000010 (a : AV) : ((treeF Tryz.prog ext0 C37 3000 G0 54 (rvL [.i .u8, shBits, shBits] a 0)).go [false, false, false, false, false, false, false, true, false]).all (okR (shRes)) = true := by kernel_rfl
end Go.Proofs.YtpfoifflfgiaoaaGreatDoor
