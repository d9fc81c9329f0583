/- table.Run: when it answers an outcome. -/
import Derived.Test.YtpfoifflfgiaoaaGreatDoorK25
set_option linter.unusedVariables false
set_option linter.unusedSimpArgs false
namespace Go.Proofs.YtpfoifflfgiaoaaGreatDoor
open Go Go.RowKit Go.MapKept
def tests11_0 (a : AV) : List Bool := [!(decide (wrapF .i64 (eF a) < 4)), !(decide (eM a ≤ 4)), decide (eTi a > 1), fitsB (eF a) (val2 (eW a 1) (eW a 0)), ((eW a 2 == 0) && ((eW a 3 == 0) && true)), !(((eW a 4 == 0) && ((eW a 5 == 0) && true)))]
theorem cat11_0 (a : AV) : (runT (rvL (shEnt 11 (.n .u8 0)) a 0)).cat goodO badO [false, false, false, true, true, false] = true := by kernel_rfl
theorem cs11_0 (a : AV) : (runT (rvL (shEnt 11 (.n .u8 0)) a 0)).cs [false, false, false, true, true, false] = tests11_0 a := by kernel_rfl
theorem run11_0 (a : AV) : Ran (rvL (shEnt 11 (.n .u8 0)) a 0) (tests11_0 a) [false, false, false, true, true, false] := ran_of (rvL_sc _ _ _ _) (cat11_0 a) (cs11_0 a)
def tests11_1 (a : AV) : List Bool := [!(decide (wrapF .i64 (eF a) < 4)), !(decide (eM a ≤ 4)), decide (eTi a > 1), fitsB (eF a) (val2 (eW a 1) (eW a 0)), ((eW a 2 == 0) && ((eW a 3 == 0) && true)), !(((eW a 4 == 0) && ((eW a 5 == 0) && true)))]
theorem cat11_1 (a : AV) : (runT (rvL (shEnt 11 (.n .u8 1)) a 0)).cat goodO badO [false, false, false, true, true, false] = true := by kernel_rfl
theorem cs11_1 (a : AV) : (runT (rvL (shEnt 11 (.n .u8 1)) a 0)).cs [false, false, false, true, true, false] = tests11_1 a := by kernel_rfl
theorem run11_1 (a : AV) : Ran (rvL (shEnt 11 (.n .u8 1)) a 0) (tests11_1 a) [false, false, false, true, true, false] := ran_of (rvL_sc _ _ _ _) (cat11_1 a) (cs11_1 a)
def tests11_2 (a : AV) : List Bool := [!(decide (wrapF .i64 (eF a) < 4)), !(decide (eM a ≤ 4)), decide (eTi a > 1), fitsB (eF a) (val2 (eW a 1) (eW a 0)), ((eW a 2 == 0) && ((eW a 3 == 0) && true)), !(((eW a 4 == 0) && ((eW a 5 == 0) && true)))]
theorem cat11_2 (a : AV) : (runT (rvL (shEnt 11 (.n .u8 2)) a 0)).cat goodO badO [false, false, false, true, true, false] = true := by kernel_rfl
theorem cs11_2 (a : AV) : (runT (rvL (shEnt 11 (.n .u8 2)) a 0)).cs [false, false, false, true, true, false] = tests11_2 a := by kernel_rfl
theorem run11_2 (a : AV) : Ran (rvL (shEnt 11 (.n .u8 2)) a 0) (tests11_2 a) [false, false, false, true, true, false] := ran_of (rvL_sc _ _ _ _) (cat11_2 a) (cs11_2 a)
def tests11_3 (a : AV) : List Bool := [!(decide (wrapF .i64 (eF a) < 4)), !(decide (eM a ≤ 4)), decide (eTi a > 1), fitsB (eF a) (val2 (eW a 1) (eW a 0)), ((eW a 2 == 0) && ((eW a 3 == 0) && true)), !(((eW a 4 == 0) && ((eW a 5 == 0) && true)))]
theorem cat11_3 (a : AV) : (runT (rvL (shEnt 11 (.n .u8 3)) a 0)).cat goodO badO [false, false, false, true, true, false] = true := by kernel_rfl
theorem cs11_3 (a : AV) : (runT (rvL (shEnt 11 (.n .u8 3)) a 0)).cs [false, false, false, true, true, false] = tests11_3 a := by kernel_rfl
theorem run11_3 (a : AV) : Ran (rvL (shEnt 11 (.n .u8 3)) a 0) (tests11_3 a) [false, false, false, true, true, false] := ran_of (rvL_sc _ _ _ _) (cat11_3 a) (cs11_3 a)
def tests12_0 (a : AV) : List Bool := [!(decide (wrapF .i64 (eF a) < 4)), !(decide (eM a ≤ 4)), decide (eTi a > 1), (eW a 0 == 0), (wrapF .u64 (wrapF .i64 (wrapF .i32 (eW a 1))) == eW a 1), ((eW a 2 == 0) && ((eW a 3 == 0) && true)), !(((eW a 4 == 0) && ((eW a 5 == 0) && true)))]
theorem cat12_0 (a : AV) : (runT (rvL (shEnt 12 (.n .u8 0)) a 0)).cat goodO badO [false, false, false, true, true, true, false] = true := by kernel_rfl
theorem cs12_0 (a : AV) : (runT (rvL (shEnt 12 (.n .u8 0)) a 0)).cs [false, false, false, true, true, true, false] = tests12_0 a := by kernel_rfl
theorem run12_0 (a : AV) : Ran (rvL (shEnt 12 (.n .u8 0)) a 0) (tests12_0 a) [false, false, false, true, true, true, false] := ran_of (rvL_sc _ _ _ _) (cat12_0 a) (cs12_0 a)
end Go.Proofs.YtpfoifflfgiaoaaGreatDoor
namespace Go.Proofs.YtpfoifflfgiaoaaGreatDoor
open Go Go.RowKit Go.MapKept
def tests12_1 (a : AV) : List Bool := [!(decide (wrapF .i64 (eF a) < 4)), !(decide (eM a ≤ 4)), decide (eTi a > 1), (eW a 0 == 0), (wrapF .u64 (wrapF .u32 (eW a 1)) == eW a 1), ((eW a 2 == 0) && ((eW a 3 == 0) && true)), !(((eW a 4 == 0) && ((eW a 5 == 0) && true)))]
theorem cat12_1 (a : AV) : (runT (rvL (shEnt 12 (.n .u8 1)) a 0)).cat goodO badO [false, false, false, true, true, true, false] = true := by kernel_rfl
theorem cs12_1 (a : AV) : (runT (rvL (shEnt 12 (.n .u8 1)) a 0)).cs [false, false, false, true, true, true, false] = tests12_1 a := by kernel_rfl
theorem run12_1 (a : AV) : Ran (rvL (shEnt 12 (.n .u8 1)) a 0) (tests12_1 a) [false, false, false, true, true, true, false] := ran_of (rvL_sc _ _ _ _) (cat12_1 a) (cs12_1 a)
def tests12_2 (a : AV) : List Bool := [!(decide (wrapF .i64 (eF a) < 4)), !(decide (eM a ≤ 4)), decide (eTi a > 1), (eW a 0 == 0), (eW a 1 == eW a 1), ((eW a 2 == 0) && ((eW a 3 == 0) && true)), !(((eW a 4 == 0) && ((eW a 5 == 0) && true)))]
theorem cat12_2 (a : AV) : (runT (rvL (shEnt 12 (.n .u8 2)) a 0)).cat goodO badO [false, false, false, true, true, true, false] = true := by kernel_rfl
theorem cs12_2 (a : AV) : (runT (rvL (shEnt 12 (.n .u8 2)) a 0)).cs [false, false, false, true, true, true, false] = tests12_2 a := by kernel_rfl
theorem run12_2 (a : AV) : Ran (rvL (shEnt 12 (.n .u8 2)) a 0) (tests12_2 a) [false, false, false, true, true, true, false] := ran_of (rvL_sc _ _ _ _) (cat12_2 a) (cs12_2 a)
def tests12_3 (a : AV) : List Bool := [!(decide (wrapF .i64 (eF a) < 4)), !(decide (eM a ≤ 4)), decide (eTi a > 1), (eW a 0 == 0), (eW a 1 == eW a 1), ((eW a 2 == 0) && ((eW a 3 == 0) && true)), !(((eW a 4 == 0) && ((eW a 5 == 0) && true)))]
theorem cat12_3 (a : AV) : (runT (rvL (shEnt 12 (.n .u8 3)) a 0)).cat goodO badO [false, false, false, true, true, true, false] = true := by kernel_rfl
theorem cs12_3 (a : AV) : (runT (rvL (shEnt 12 (.n .u8 3)) a 0)).cs [false, false, false, true, true, true, false] = tests12_3 a := by kernel_rfl
theorem run12_3 (a : AV) : Ran (rvL (shEnt 12 (.n .u8 3)) a 0) (tests12_3 a) [false, false, false, true, true, true, false] := ran_of (rvL_sc _ _ _ _) (cat12_3 a) (cs12_3 a)
def tests13 (a : AV) : List Bool := [!(decide (wrapF .i64 (eF a) < 4)), !(decide (eM a ≤ 4)), decide (eTi a > 1), !(eTo a == 0), fitsB (eF a) (val2 (eW a 1) (eW a 0)), fitsB (eF a) (val2 (eW a 3) (eW a 2)), !(((eW a 4 == 0) && ((eW a 5 == 0) && true)))]
theorem cat13 (a : AV) : (runT (rvL (shEnt 13 (.i .u8)) a 0)).cat goodO badO [false, false, false, false, true, true, false] = true := by kernel_rfl
theorem cs13 (a : AV) : (runT (rvL (shEnt 13 (.i .u8)) a 0)).cs [false, false, false, false, true, true, false] = tests13 a := by kernel_rfl
theorem run13 (a : AV) : Ran (rvL (shEnt 13 (.i .u8)) a 0) (tests13 a) [false, false, false, false, true, true, false] := ran_of (rvL_sc _ _ _ _) (cat13 a) (cs13 a)
def tests14 (a : AV) : List Bool := [!(decide (wrapF .i64 (eF a) < 4)), !(decide (eM a ≤ 4)), decide (eTi a > 1), !(eTo a == 0), fitsB (eF a) (val2 (eW a 1) (eW a 0)), fitsB (eF a) (val2 (eW a 3) (eW a 2)), !(((eW a 4 == 0) && ((eW a 5 == 0) && true)))]
theorem cat14 (a : AV) : (runT (rvL (shEnt 14 (.i .u8)) a 0)).cat goodO badO [false, false, false, false, true, true, false] = true := by kernel_rfl
theorem cs14 (a : AV) : (runT (rvL (shEnt 14 (.i .u8)) a 0)).cs [false, false, false, false, true, true, false] = tests14 a := by kernel_rfl
theorem run14 (a : AV) : Ran (rvL (shEnt 14 (.i .u8)) a 0) (tests14 a) [false, false, false, false, true, true, false] := ran_of (rvL_sc _ _ _ _) (cat14 a) (cs14 a)
end Go.Proofs.YtpfoifflfgiaoaaGreatDoor
