/- What functions answer, by its shape. -/
import Derived.Test.YtpfoifflfgiaoaaGreatDoorK16
set_option linter.unusedVariables false
set_option linter.unusedSimpArgs false
namespace Go.Proofs.YtpfoifflfgiaoaaGreatDoor
open Go Go.RowKit Go.MapKept
theorem tot_divDivR_p1 (a : AV) : ((treeF Tryz.prog ext0 C33 3000 G0 48 (rvL [.i .u8, shEnv, shBits, shBits] a 0)).go [true]).all (okR (shRes)) = true := by kernel_rfl
theorem tot_divDivR_p01 (a : AV) : ((treeF Tryz.prog ext0 C33 3000 G0 48 (rvL [.i .u8, shEnv, shBits, shBits] a 0)).go [false, true]).all (okR (shRes)) = true := by kernel_rfl
theorem tot_divDivR_p0011 (a : AV) : ((treeF Tryz.prog ext0 C33 3000 G0 48 (rvL [.i .u8, shEnv, shBits, shBits] a 0)).go [false, false, true, true]).all (okR (shRes)) = true := by kernel_rfl
theorem tot_divDivR_p0010 (a : AV) : ((treeF Tryz.prog ext0 C33 3000 G0 48 (rvL [.i .u8, shEnv, shBits, shBits] a 0)).go [false, false, true, false]).all (okR (shRes)) = true := by kernel_rfl
theorem tot_divDivR_p000 (a : AV) : ((treeF Tryz.prog ext0 C33 3000 G0 48 (rvL [.i .u8, shEnv, shBits, shBits] a 0)).go [false, false, false]).all (okR (shRes)) = true := by kernel_rfl
theorem tot_divDivR_j {α : Type} {t : Tr α} {p : α → Bool} (h1 : (t.go [true]).all p = true) (h01 : (t.go [false, true]).all p = true) (h0011 : (t.go [false, false, true, true]).all p = true) (h0010 : (t.go [false, false, true, false]).all p = true) (h000 : (t.go [false, false, false]).all p = true) : t.all p = true := Tr.go_nil (Tr.go_two (l := []) (h1) (Tr.go_two (l := [false]) (h01) (Tr.go_two (l := [false, false]) (Tr.go_two (l := [false, false, true]) (h0011) (h0010)) (h000))))
theorem tot_divDivR : Tot Tryz.prog G0 48 [.i .u8, shEnv, shBits, shBits] (shRes) := tot_of 3000 ext0_ok noNG litG0 C33_ok fun a => tot_divDivR_j (tot_divDivR_p1 a) (tot_divDivR_p01 a) (tot_divDivR_p0011 a) (tot_divDivR_p0010 a) (tot_divDivR_p000 a)
noncomputable def C34 : Con := C33.add Tryz.prog G0 48 [.i .u8, shEnv, shBits, shBits] (shRes)
theorem C34_ok : ConOk Tryz.prog G0 C34 := C33_ok.add tot_divDivR
end Go.Proofs.YtpfoifflfgiaoaaGreatDoor
namespace Go.Proofs.YtpfoifflfgiaoaaGreatDoor
open Go Go.RowKit Go.MapKept
theorem tot_fmaofP : Tot Tryz.prog G0 102 [shNumI, shNumI] (shProd) := tot_of 3000 ext0_ok noNG litG0 C34_ok fun a => by kernel_rfl
noncomputable def C35 : Con := C34.add Tryz.prog G0 102 [shNumI, shNumI] (shProd)
theorem C35_ok : ConOk Tryz.prog G0 C35 := C34_ok.add tot_fmaofP
end Go.Proofs.YtpfoifflfgiaoaaGreatDoor
