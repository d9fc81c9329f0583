/- What functions answer, by its shape: sqrt. -/
import Derived.Test.YtpfoifflfgiaoaaGreatDoorK14
set_option linter.unusedVariables false
set_option linter.unusedSimpArgs false
namespace Go.Proofs.YtpfoifflfgiaoaaGreatDoor
open Go Go.RowKit Go.MapKept
theorem tot_packExactBz : Tot Tryz.prog G0 112 [.i .u8, .b, .i .i64, shWide] (.t [shBits, .b]) := tot_of 3000 ext0_ok noNG litG0 C22_ok fun a => by kernel_rfl
noncomputable def C23 : Con := C22.add Tryz.prog G0 112 [.i .u8, .b, .i .i64, shWide] (.t [shBits, .b])
theorem C23_ok : ConOk Tryz.prog G0 C23 := C22_ok.add tot_packExactBz
theorem tot_sqrtSqrtR_p1 (a : AV) : ((treeF Tryz.prog ext0 C23 3000 G0 50 (rvL [.i .u8, shEnv, shBits] a 0)).go [true]).all (okR (shRes)) = true := by kernel_rfl
theorem tot_sqrtSqrtR_p01 (a : AV) : ((treeF Tryz.prog ext0 C23 3000 G0 50 (rvL [.i .u8, shEnv, shBits] a 0)).go [false, true]).all (okR (shRes)) = true := by kernel_rfl
theorem tot_sqrtSqrtR_p001 (a : AV) : ((treeF Tryz.prog ext0 C23 3000 G0 50 (rvL [.i .u8, shEnv, shBits] a 0)).go [false, false, true]).all (okR (shRes)) = true := by kernel_rfl
theorem tot_sqrtSqrtR_p0001 (a : AV) : ((treeF Tryz.prog ext0 C23 3000 G0 50 (rvL [.i .u8, shEnv, shBits] a 0)).go [false, false, false, true]).all (okR (shRes)) = true := by kernel_rfl
theorem tot_sqrtSqrtR_p00001 (a : AV) : ((treeF Tryz.prog ext0 C23 3000 G0 50 (rvL [.i .u8, shEnv, shBits] a 0)).go [false, false, false, false, true]).all (okR (shRes)) = true := by kernel_rfl
theorem tot_sqrtSqrtR_p000001 (a : AV) : ((treeF Tryz.prog ext0 C23 3000 G0 50 (rvL [.i .u8, shEnv, shBits] a 0)).go [false, false, false, false, false, true]).all (okR (shRes)) = true := by kernel_rfl
theorem tot_sqrtSqrtR_p0000001 (a : AV) : ((treeF Tryz.prog ext0 C23 3000 G0 50 (rvL [.i .u8, shEnv, shBits] a 0)).go [false, false, false, false, false, false, true]).all (okR (shRes)) = true := by kernel_rfl
theorem tot_sqrtSqrtR_p0000000 (a : AV) : ((treeF Tryz.prog ext0 C23 3000 G0 50 (rvL [.i .u8, shEnv, shBits] a 0)).go [false, false, false, false, false, false, false]).all (okR (shRes)) = true := by kernel_rfl
theorem tot_sqrtSqrtR_j {α : Type} {t : Tr α} {p : α → Bool} (h1 : (t.go [true]).all p = true) (h01 : (t.go [false, true]).all p = true) (h001 : (t.go [false, false, true]).all p = true) (h0001 : (t.go [false, false, false, true]).all p = true) (h00001 : (t.go [false, false, false, false, true]).all p = true) (h000001 : (t.go [false, false, false, false, false, true]).all p = true) (h0000001 : (t.go [false, false, false, false, false, false, true]).all p = true) (h0000000 : (t.go [false, false, false, false, false, false, false]).all p = true) : t.all p = true := Tr.go_nil (Tr.go_two (l := []) (h1) (Tr.go_two (l := [false]) (h01) (Tr.go_two (l := [false, false]) (h001) (Tr.go_two (l := [false, false, false]) (h0001) (Tr.go_two (l := [false, false, false, false]) (h00001) (Tr.go_two (l := [false, false, false, false, false]) (h000001) (Tr.go_two (l := [false, false, false, false, false, false]) (h0000001) (h0000000))))))))
theorem tot_sqrtSqrtR : Tot Tryz.prog G0 50 [.i .u8, shEnv, shBits] (shRes) := tot_of 3000 ext0_ok noNG litG0 C23_ok fun a => tot_sqrtSqrtR_j (tot_sqrtSqrtR_p1 a) (tot_sqrtSqrtR_p01 a) (tot_sqrtSqrtR_p001 a) (tot_sqrtSqrtR_p0001 a) (tot_sqrtSqrtR_p00001 a) (tot_sqrtSqrtR_p000001 a) (tot_sqrtSqrtR_p0000001 a) (tot_sqrtSqrtR_p0000000 a)
noncomputable def C24 : Con := C23.add Tryz.prog G0 50 [.i .u8, shEnv, shBits] (shRes)
theorem C24_ok : ConOk Tryz.prog G0 C24 := C23_ok.add tot_sqrtSqrtR
end Go.Proofs.YtpfoifflfgiaoaaGreatDoor
