/- table.Run: when it answers an outcome. -/
import Derived.Test.YtpfoifflfgiaoaaGreatDoorK24
set_option linter.unusedVariables false
set_option linter.unusedSimpArgs false
namespace Go.Proofs.YtpfoifflfgiaoaaGreatDoor
open Go Go.RowKit Go.MapKept
def tests1 (a : AV) : List Bool := [!(decide (wrapF .i64 (eF a) < 4)), !(decide (eM a ≤ 4)), decide (eTi a > 1), !(eTo a == 0), fitsB (eF a) (val2 (eW a 1) (eW a 0)), fitsB (eF a) (val2 (eW a 3) (eW a 2)), !(((eW a 4 == 0) && ((eW a 5 == 0) && true)))]
theorem cat1 (a : AV) : (runT (rvL (shEnt 1 (.i .u8)) a 0)).cat goodO badO [false, false, false, false, true, true, false] = true := by kernel_rfl
theorem cs1 (a : AV) : (runT (rvL (shEnt 1 (.i .u8)) a 0)).cs [false, false, false, false, true, true, false] = tests1 a := by kernel_rfl
theorem run1 (a : AV) : Ran (rvL (shEnt 1 (.i .u8)) a 0) (tests1 a) [false, false, false, false, true, true, false] := ran_of (rvL_sc _ _ _ _) (cat1 a) (cs1 a)
def tests2 (a : AV) : List Bool := [!(decide (wrapF .i64 (eF a) < 4)), !(decide (eM a ≤ 4)), decide (eTi a > 1), !(eTo a == 0), fitsB (eF a) (val2 (eW a 1) (eW a 0)), fitsB (eF a) (val2 (eW a 3) (eW a 2)), !(((eW a 4 == 0) && ((eW a 5 == 0) && true)))]
theorem cat2 (a : AV) : (runT (rvL (shEnt 2 (.i .u8)) a 0)).cat goodO badO [false, false, false, false, true, true, false] = true := by kernel_rfl
theorem cs2 (a : AV) : (runT (rvL (shEnt 2 (.i .u8)) a 0)).cs [false, false, false, false, true, true, false] = tests2 a := by kernel_rfl
theorem run2 (a : AV) : Ran (rvL (shEnt 2 (.i .u8)) a 0) (tests2 a) [false, false, false, false, true, true, false] := ran_of (rvL_sc _ _ _ _) (cat2 a) (cs2 a)
def tests3 (a : AV) : List Bool := [!(decide (wrapF .i64 (eF a) < 4)), !(decide (eM a ≤ 4)), decide (eTi a > 1), !(eTo a == 0), fitsB (eF a) (val2 (eW a 1) (eW a 0)), fitsB (eF a) (val2 (eW a 3) (eW a 2)), !(((eW a 4 == 0) && ((eW a 5 == 0) && true)))]
theorem cat3 (a : AV) : (runT (rvL (shEnt 3 (.i .u8)) a 0)).cat goodO badO [false, false, false, false, true, true, false] = true := by kernel_rfl
theorem cs3 (a : AV) : (runT (rvL (shEnt 3 (.i .u8)) a 0)).cs [false, false, false, false, true, true, false] = tests3 a := by kernel_rfl
theorem run3 (a : AV) : Ran (rvL (shEnt 3 (.i .u8)) a 0) (tests3 a) [false, false, false, false, true, true, false] := ran_of (rvL_sc _ _ _ _) (cat3 a) (cs3 a)
def tests4 (a : AV) : List Bool := [!(decide (wrapF .i64 (eF a) < 4)), !(decide (eM a ≤ 4)), decide (eTi a > 1), !(eTo a == 0), fitsB (eF a) (val2 (eW a 1) (eW a 0)), fitsB (eF a) (val2 (eW a 3) (eW a 2)), !(((eW a 4 == 0) && ((eW a 5 == 0) && true)))]
theorem cat4 (a : AV) : (runT (rvL (shEnt 4 (.i .u8)) a 0)).cat goodO badO [false, false, false, false, true, true, false] = true := by kernel_rfl
theorem cs4 (a : AV) : (runT (rvL (shEnt 4 (.i .u8)) a 0)).cs [false, false, false, false, true, true, false] = tests4 a := by kernel_rfl
theorem run4 (a : AV) : Ran (rvL (shEnt 4 (.i .u8)) a 0) (tests4 a) [false, false, false, false, true, true, false] := ran_of (rvL_sc _ _ _ _) (cat4 a) (cs4 a)
def tests5 (a : AV) : List Bool := [!(decide (wrapF .i64 (eF a) < 4)), !(decide (eM a ≤ 4)), decide (eTi a > 1), !(eTo a == 0), fitsB (eF a) (val2 (eW a 1) (eW a 0)), ((eW a 2 == 0) && ((eW a 3 == 0) && true)), !(((eW a 4 == 0) && ((eW a 5 == 0) && true)))]
theorem cat5 (a : AV) : (runT (rvL (shEnt 5 (.i .u8)) a 0)).cat goodO badO [false, false, false, false, true, true, false] = true := by kernel_rfl
theorem cs5 (a : AV) : (runT (rvL (shEnt 5 (.i .u8)) a 0)).cs [false, false, false, false, true, true, false] = tests5 a := by kernel_rfl
theorem run5 (a : AV) : Ran (rvL (shEnt 5 (.i .u8)) a 0) (tests5 a) [false, false, false, false, true, true, false] := ran_of (rvL_sc _ _ _ _) (cat5 a) (cs5 a)
end Go.Proofs.YtpfoifflfgiaoaaGreatDoor
namespace Go.Proofs.YtpfoifflfgiaoaaGreatDoor
open Go Go.RowKit Go.MapKept
def tests6 (a : AV) : List Bool := [!(decide (wrapF .i64 (eF a) < 4)), !(decide (eM a ≤ 4)), decide (eTi a > 1), !(eTo a == 0), fitsB (eF a) (val2 (eW a 1) (eW a 0)), fitsB (eF a) (val2 (eW a 3) (eW a 2)), !(fitsB (eF a) (val2 (eW a 5) (eW a 4)))]
theorem cat6 (a : AV) : (runT (rvL (shEnt 6 (.i .u8)) a 0)).cat goodO badO [false, false, false, false, true, true, false] = true := by kernel_rfl
theorem cs6 (a : AV) : (runT (rvL (shEnt 6 (.i .u8)) a 0)).cs [false, false, false, false, true, true, false] = tests6 a := by kernel_rfl
theorem run6 (a : AV) : Ran (rvL (shEnt 6 (.i .u8)) a 0) (tests6 a) [false, false, false, false, true, true, false] := ran_of (rvL_sc _ _ _ _) (cat6 a) (cs6 a)
def tests7 (a : AV) : List Bool := [!(decide (wrapF .i64 (eF a) < 4)), !(decide (eM a ≤ 4)), decide (eTi a > 1), !(eTo a == 0), fitsB (eF a) (val2 (eW a 1) (eW a 0)), fitsB (eF a) (val2 (eW a 3) (eW a 2)), !(((eW a 4 == 0) && ((eW a 5 == 0) && true)))]
theorem cat7 (a : AV) : (runT (rvL (shEnt 7 (.i .u8)) a 0)).cat goodO badO [false, false, false, false, true, true, false] = true := by kernel_rfl
theorem cs7 (a : AV) : (runT (rvL (shEnt 7 (.i .u8)) a 0)).cs [false, false, false, false, true, true, false] = tests7 a := by kernel_rfl
theorem run7 (a : AV) : Ran (rvL (shEnt 7 (.i .u8)) a 0) (tests7 a) [false, false, false, false, true, true, false] := ran_of (rvL_sc _ _ _ _) (cat7 a) (cs7 a)
def tests8 (a : AV) : List Bool := [!(decide (wrapF .i64 (eF a) < 4)), !(decide (eM a ≤ 4)), decide (eTi a > 1), !(eTo a == 0), fitsB (eF a) (val2 (eW a 1) (eW a 0)), ((eW a 2 == 0) && ((eW a 3 == 0) && true)), !(((eW a 4 == 0) && ((eW a 5 == 0) && true)))]
theorem cat8 (a : AV) : (runT (rvL (shEnt 8 (.i .u8)) a 0)).cat goodO badO [false, false, false, false, true, true, false] = true := by kernel_rfl
theorem cs8 (a : AV) : (runT (rvL (shEnt 8 (.i .u8)) a 0)).cs [false, false, false, false, true, true, false] = tests8 a := by kernel_rfl
theorem run8 (a : AV) : Ran (rvL (shEnt 8 (.i .u8)) a 0) (tests8 a) [false, false, false, false, true, true, false] := ran_of (rvL_sc _ _ _ _) (cat8 a) (cs8 a)
def tests9 (a : AV) : List Bool := [!(decide (wrapF .i64 (eF a) < 4)), !(decide (eM a ≤ 4)), decide (eTi a > 1), !(eTo a == 0), fitsB (eF a) (val2 (eW a 1) (eW a 0)), ((eW a 2 == 0) && ((eW a 3 == 0) && true)), !(((eW a 4 == 0) && ((eW a 5 == 0) && true)))]
theorem cat9 (a : AV) : (runT (rvL (shEnt 9 (.i .u8)) a 0)).cat goodO badO [false, false, false, false, true, true, false] = true := by kernel_rfl
theorem cs9 (a : AV) : (runT (rvL (shEnt 9 (.i .u8)) a 0)).cs [false, false, false, false, true, true, false] = tests9 a := by kernel_rfl
theorem run9 (a : AV) : Ran (rvL (shEnt 9 (.i .u8)) a 0) (tests9 a) [false, false, false, false, true, true, false] := ran_of (rvL_sc _ _ _ _) (cat9 a) (cs9 a)
def tests10 (a : AV) : List Bool := [!(decide (wrapF .i64 (eF a) < 4)), !(decide (eM a ≤ 4)), decide (eTi a > 1), !(decide (wrapF .i64 (eTo a) < 4)), fitsB (eF a) (val2 (eW a 1) (eW a 0)), ((eW a 2 == 0) && ((eW a 3 == 0) && true)), !(((eW a 4 == 0) && ((eW a 5 == 0) && true)))]
theorem cat10 (a : AV) : (runT (rvL (shEnt 10 (.i .u8)) a 0)).cat goodO badO [false, false, false, false, true, true, false] = true := by kernel_rfl
theorem cs10 (a : AV) : (runT (rvL (shEnt 10 (.i .u8)) a 0)).cs [false, false, false, false, true, true, false] = tests10 a := by kernel_rfl
theorem run10 (a : AV) : Ran (rvL (shEnt 10 (.i .u8)) a 0) (tests10 a) [false, false, false, false, true, true, false] := ran_of (rvL_sc _ _ _ _) (cat10 a) (cs10 a)
end Go.Proofs.YtpfoifflfgiaoaaGreatDoor
