/- hairsbreadthref29.May of any other entry. -/
import Derived.Test.YtpfoifflfgiaoaaGreatDoorK27
import Derived.Test.YtpfoifflfgiaoaaGreatDoorK30
set_option linter.unusedVariables false
set_option linter.unusedSimpArgs false
namespace Go.Proofs.YtpfoifflfgiaoaaGreatDoor
open Go Go.RowKit Go.MapKept

/-- no bits above a format's width (a format that is none: no bits) -/
def fitsR (f : Int) (A : Nat) : Bool := decide (lenB A ≤ widthI f)
def oFitsR (args : List AV) : Option AV := match args with
  | [x0, x1] => match m8 x0, b2 x1 with
    | some y0, some y1 => some (mkB (y0.l && y1.l) (fitsR y0.i (val2 y1.j y1.i)))
    | _, _ => none
  | _ => none
theorem oFitsR_ok (args : List AV) (r : AV) (h : oFitsR args = some r) (e : Env) (w : World) (hw : GOk G0 w.heap.size w) : Calls Tryz.prog 18 (denL e args).toArray w fun en w' => en = .returned (r.den e) ∧ Below w.heap.size w w' := by
  unfold oFitsR at h
  split at h <;> try cases h
  rename_i x0 x1
  split at h <;> try cases h
  rename_i y0 y1 h0 h1
  have hA := IsBits.val y1.hi y1.hj
  rw [mkB_den]
  simp only [denL, m8_den h0, b2_den h1]
  have hv : bitsV (val2 y1.j y1.i) = .agg #[.int .u64 y1.i, .int .u64 y1.j] := by
    show Value.agg #[.int .u64 (limb 1 (val2 y1.j y1.i)), .int .u64 (limb 0 (val2 y1.j y1.i))] = _
    rw [← hA.hi, ← hA.lo]
  have := Fits_any y0.i hA.w w
  rw [hv] at this
  exact this
noncomputable def CM : Con := C0.put 18 oFitsR
theorem CM_ok : ConOk Tryz.prog G0 CM := C0_ok.put fun args r h e w hw => oFitsR_ok args r h e w hw
noncomputable def mayT (args : List AV) : Tr Res := treeF Tryz.prog ext0 CM 3000 G0 9 args
def goodM (q : Res) : Bool := (q.1.sc (fun _ => false) && q.2.2.2.1.all id) && (match q.1 with | .v (.bool _) => true | _ => false)
def badM (q : Res) : Bool := (q.1.sc (fun _ => false) && q.2.2.2.1.all id) && (match q.1 with | .b false => true | _ => false)
/-- what May answers: v just if the tests come out so; else false -/
def Mays (args : List AV) (L p : List Bool) (v : Bool) : Prop := ∃ r, Says Tryz.prog G0 9 args r ∧ (L = p → r = .v (.bool v)) ∧ (L ≠ p → r = .b false)
theorem mays_of {args : List AV} {L p : List Bool} {v : Bool} (ha : scL (fun _ => false) args = true) (h : (mayT args).cat goodM badM p = true) (hc : (mayT args).cs p = L) (hv : (((mayT args).go p).ev.map okQ) = some (.v (.bool v), true)) : Mays args L p v := by
  by_cases he : L = p
  · refine ⟨.v (.bool v), says_val (n := 3000) ext0_ok noNG litG0 CM_ok ha ?_, fun _ => rfl, fun hn => absurd he hn⟩
    have := Tr.path_ev (hc.trans he)
    unfold mayT at this hv
    rw [this]
    exact hv
  · obtain ⟨_, h2⟩ := Tr.cat_ev h
    rw [hc] at h2
    obtain ⟨q, g1, g2⟩ := h2 he
    simp only [badM, Bool.and_eq_true] at g2
    refine ⟨q.1, says_ev ext0_ok noNG litG0 CM_ok ha g1 (by simp only [Bool.and_eq_true]; exact g2.1), fun h => absurd h he, fun _ => ?_⟩
    have g3 := g2.2
    split at g3
    · rename_i hq; exact hq
    · cases g3
end Go.Proofs.YtpfoifflfgiaoaaGreatDoor
namespace Go.Proofs.YtpfoifflfgiaoaaGreatDoor
open Go Go.RowKit Go.MapKept
def mtests1 (a : AV) : List Bool := [decide (eF a > 3), decide (eM a > 4), decide (eTi a > 1), decide (eTo a > 3), !(eTo a == 0), !(((eW a 4 == 0) && ((eW a 5 == 0) && true))), fitsR (eF a) (val2 (eW a 1) (eW a 0)), fitsR (eF a) (val2 (eW a 3) (eW a 2))]
theorem mcat1 (a : AV) : (mayT (rvL (shEnt 1 (.i .u8)) a 0)).cat goodM badM [false, false, false, false, false, false, true, true] = true := by kernel_rfl
theorem mcs1 (a : AV) : (mayT (rvL (shEnt 1 (.i .u8)) a 0)).cs [false, false, false, false, false, false, true, true] = mtests1 a := by kernel_rfl
theorem mval1 (a : AV) : (((mayT (rvL (shEnt 1 (.i .u8)) a 0)).go [false, false, false, false, false, false, true, true]).ev.map okQ) = some (.v (.bool (fitsR (eF a) (val2 (eW a 5) (eW a 4)))), true) := by kernel_rfl
theorem may1 (a : AV) : Mays (rvL (shEnt 1 (.i .u8)) a 0) (mtests1 a) [false, false, false, false, false, false, true, true] (fitsR (eF a) (val2 (eW a 5) (eW a 4))) := mays_of (rvL_sc _ _ _ _) (mcat1 a) (mcs1 a) (mval1 a)
def mtests2 (a : AV) : List Bool := [decide (eF a > 3), decide (eM a > 4), decide (eTi a > 1), decide (eTo a > 3), !(eTo a == 0), !(((eW a 4 == 0) && ((eW a 5 == 0) && true))), fitsR (eF a) (val2 (eW a 1) (eW a 0)), fitsR (eF a) (val2 (eW a 3) (eW a 2))]
theorem mcat2 (a : AV) : (mayT (rvL (shEnt 2 (.i .u8)) a 0)).cat goodM badM [false, false, false, false, false, false, true, true] = true := by kernel_rfl
theorem mcs2 (a : AV) : (mayT (rvL (shEnt 2 (.i .u8)) a 0)).cs [false, false, false, false, false, false, true, true] = mtests2 a := by kernel_rfl
theorem mval2 (a : AV) : (((mayT (rvL (shEnt 2 (.i .u8)) a 0)).go [false, false, false, false, false, false, true, true]).ev.map okQ) = some (.v (.bool (fitsR (eF a) (val2 (eW a 5) (eW a 4)))), true) := by kernel_rfl
theorem may2 (a : AV) : Mays (rvL (shEnt 2 (.i .u8)) a 0) (mtests2 a) [false, false, false, false, false, false, true, true] (fitsR (eF a) (val2 (eW a 5) (eW a 4))) := mays_of (rvL_sc _ _ _ _) (mcat2 a) (mcs2 a) (mval2 a)
def mtests3 (a : AV) : List Bool := [decide (eF a > 3), decide (eM a > 4), decide (eTi a > 1), decide (eTo a > 3), !(eTo a == 0), !(((eW a 4 == 0) && ((eW a 5 == 0) && true))), fitsR (eF a) (val2 (eW a 1) (eW a 0)), fitsR (eF a) (val2 (eW a 3) (eW a 2))]
theorem mcat3 (a : AV) : (mayT (rvL (shEnt 3 (.i .u8)) a 0)).cat goodM badM [false, false, false, false, false, false, true, true] = true := by kernel_rfl
theorem mcs3 (a : AV) : (mayT (rvL (shEnt 3 (.i .u8)) a 0)).cs [false, false, false, false, false, false, true, true] = mtests3 a := by kernel_rfl
theorem mval3 (a : AV) : (((mayT (rvL (shEnt 3 (.i .u8)) a 0)).go [false, false, false, false, false, false, true, true]).ev.map okQ) = some (.v (.bool (fitsR (eF a) (val2 (eW a 5) (eW a 4)))), true) := by kernel_rfl
theorem may3 (a : AV) : Mays (rvL (shEnt 3 (.i .u8)) a 0) (mtests3 a) [false, false, false, false, false, false, true, true] (fitsR (eF a) (val2 (eW a 5) (eW a 4))) := mays_of (rvL_sc _ _ _ _) (mcat3 a) (mcs3 a) (mval3 a)
def mtests4 (a : AV) : List Bool := [decide (eF a > 3), decide (eM a > 4), decide (eTi a > 1), decide (eTo a > 3), !(eTo a == 0), !(((eW a 4 == 0) && ((eW a 5 == 0) && true))), fitsR (eF a) (val2 (eW a 1) (eW a 0)), fitsR (eF a) (val2 (eW a 3) (eW a 2))]
theorem mcat4 (a : AV) : (mayT (rvL (shEnt 4 (.i .u8)) a 0)).cat goodM badM [false, false, false, false, false, false, true, true] = true := by kernel_rfl
theorem mcs4 (a : AV) : (mayT (rvL (shEnt 4 (.i .u8)) a 0)).cs [false, false, false, false, false, false, true, true] = mtests4 a := by kernel_rfl
theorem mval4 (a : AV) : (((mayT (rvL (shEnt 4 (.i .u8)) a 0)).go [false, false, false, false, false, false, true, true]).ev.map okQ) = some (.v (.bool (fitsR (eF a) (val2 (eW a 5) (eW a 4)))), true) := by kernel_rfl
theorem may4 (a : AV) : Mays (rvL (shEnt 4 (.i .u8)) a 0) (mtests4 a) [false, false, false, false, false, false, true, true] (fitsR (eF a) (val2 (eW a 5) (eW a 4))) := mays_of (rvL_sc _ _ _ _) (mcat4 a) (mcs4 a) (mval4 a)
def mtests5 (a : AV) : List Bool := [decide (eF a > 3), decide (eM a > 4), decide (eTi a > 1), decide (eTo a > 3), !(eTo a == 0), !(((eW a 2 == 0) && ((eW a 3 == 0) && true))), !(((eW a 4 == 0) && ((eW a 5 == 0) && true))), fitsR (eF a) (val2 (eW a 1) (eW a 0)), fitsR (eF a) (val2 (eW a 3) (eW a 2))]
theorem mcat5 (a : AV) : (mayT (rvL (shEnt 5 (.i .u8)) a 0)).cat goodM badM [false, false, false, false, false, false, false, true, true] = true := by kernel_rfl
theorem mcs5 (a : AV) : (mayT (rvL (shEnt 5 (.i .u8)) a 0)).cs [false, false, false, false, false, false, false, true, true] = mtests5 a := by kernel_rfl
theorem mval5 (a : AV) : (((mayT (rvL (shEnt 5 (.i .u8)) a 0)).go [false, false, false, false, false, false, false, true, true]).ev.map okQ) = some (.v (.bool (fitsR (eF a) (val2 (eW a 5) (eW a 4)))), true) := by kernel_rfl
theorem may5 (a : AV) : Mays (rvL (shEnt 5 (.i .u8)) a 0) (mtests5 a) [false, false, false, false, false, false, false, true, true] (fitsR (eF a) (val2 (eW a 5) (eW a 4))) := mays_of (rvL_sc _ _ _ _) (mcat5 a) (mcs5 a) (mval5 a)
def mtests6 (a : AV) : List Bool := [decide (eF a > 3), decide (eM a > 4), decide (eTi a > 1), decide (eTo a > 3), !(eTo a == 0), fitsR (eF a) (val2 (eW a 1) (eW a 0)), fitsR (eF a) (val2 (eW a 3) (eW a 2))]
theorem mcat6 (a : AV) : (mayT (rvL (shEnt 6 (.i .u8)) a 0)).cat goodM badM [false, false, false, false, false, true, true] = true := by kernel_rfl
theorem mcs6 (a : AV) : (mayT (rvL (shEnt 6 (.i .u8)) a 0)).cs [false, false, false, false, false, true, true] = mtests6 a := by kernel_rfl
theorem mval6 (a : AV) : (((mayT (rvL (shEnt 6 (.i .u8)) a 0)).go [false, false, false, false, false, true, true]).ev.map okQ) = some (.v (.bool (fitsR (eF a) (val2 (eW a 5) (eW a 4)))), true) := by kernel_rfl
theorem may6 (a : AV) : Mays (rvL (shEnt 6 (.i .u8)) a 0) (mtests6 a) [false, false, false, false, false, true, true] (fitsR (eF a) (val2 (eW a 5) (eW a 4))) := mays_of (rvL_sc _ _ _ _) (mcat6 a) (mcs6 a) (mval6 a)
def mtests7 (a : AV) : List Bool := [decide (eF a > 3), decide (eM a > 4), decide (eTi a > 1), decide (eTo a > 3), !(eTo a == 0), !(((eW a 4 == 0) && ((eW a 5 == 0) && true))), fitsR (eF a) (val2 (eW a 1) (eW a 0)), fitsR (eF a) (val2 (eW a 3) (eW a 2))]
theorem mcat7 (a : AV) : (mayT (rvL (shEnt 7 (.i .u8)) a 0)).cat goodM badM [false, false, false, false, false, false, true, true] = true := by kernel_rfl
theorem mcs7 (a : AV) : (mayT (rvL (shEnt 7 (.i .u8)) a 0)).cs [false, false, false, false, false, false, true, true] = mtests7 a := by kernel_rfl
theorem mval7 (a : AV) : (((mayT (rvL (shEnt 7 (.i .u8)) a 0)).go [false, false, false, false, false, false, true, true]).ev.map okQ) = some (.v (.bool (fitsR (eF a) (val2 (eW a 5) (eW a 4)))), true) := by kernel_rfl
theorem may7 (a : AV) : Mays (rvL (shEnt 7 (.i .u8)) a 0) (mtests7 a) [false, false, false, false, false, false, true, true] (fitsR (eF a) (val2 (eW a 5) (eW a 4))) := mays_of (rvL_sc _ _ _ _) (mcat7 a) (mcs7 a) (mval7 a)
def mtests8 (a : AV) : List Bool := [decide (eF a > 3), decide (eM a > 4), decide (eTi a > 1), decide (eTo a > 3), !(eTo a == 0), !(((eW a 2 == 0) && ((eW a 3 == 0) && true))), !(((eW a 4 == 0) && ((eW a 5 == 0) && true))), fitsR (eF a) (val2 (eW a 1) (eW a 0)), fitsR (eF a) (val2 (eW a 3) (eW a 2))]
theorem mcat8 (a : AV) : (mayT (rvL (shEnt 8 (.i .u8)) a 0)).cat goodM badM [false, false, false, false, false, false, false, true, true] = true := by kernel_rfl
theorem mcs8 (a : AV) : (mayT (rvL (shEnt 8 (.i .u8)) a 0)).cs [false, false, false, false, false, false, false, true, true] = mtests8 a := by kernel_rfl
theorem mval8 (a : AV) : (((mayT (rvL (shEnt 8 (.i .u8)) a 0)).go [false, false, false, false, false, false, false, true, true]).ev.map okQ) = some (.v (.bool (fitsR (eF a) (val2 (eW a 5) (eW a 4)))), true) := by kernel_rfl
theorem may8 (a : AV) : Mays (rvL (shEnt 8 (.i .u8)) a 0) (mtests8 a) [false, false, false, false, false, false, false, true, true] (fitsR (eF a) (val2 (eW a 5) (eW a 4))) := mays_of (rvL_sc _ _ _ _) (mcat8 a) (mcs8 a) (mval8 a)
def mtests9 (a : AV) : List Bool := [decide (eF a > 3), decide (eM a > 4), decide (eTi a > 1), decide (eTo a > 3), !(eTo a == 0), !(((eW a 2 == 0) && ((eW a 3 == 0) && true))), !(((eW a 4 == 0) && ((eW a 5 == 0) && true))), fitsR (eF a) (val2 (eW a 1) (eW a 0)), fitsR (eF a) (val2 (eW a 3) (eW a 2))]
theorem mcat9 (a : AV) : (mayT (rvL (shEnt 9 (.i .u8)) a 0)).cat goodM badM [false, false, false, false, false, false, false, true, true] = true := by kernel_rfl
theorem mcs9 (a : AV) : (mayT (rvL (shEnt 9 (.i .u8)) a 0)).cs [false, false, false, false, false, false, false, true, true] = mtests9 a := by kernel_rfl
theorem mval9 (a : AV) : (((mayT (rvL (shEnt 9 (.i .u8)) a 0)).go [false, false, false, false, false, false, false, true, true]).ev.map okQ) = some (.v (.bool (fitsR (eF a) (val2 (eW a 5) (eW a 4)))), true) := by kernel_rfl
theorem may9 (a : AV) : Mays (rvL (shEnt 9 (.i .u8)) a 0) (mtests9 a) [false, false, false, false, false, false, false, true, true] (fitsR (eF a) (val2 (eW a 5) (eW a 4))) := mays_of (rvL_sc _ _ _ _) (mcat9 a) (mcs9 a) (mval9 a)
def mtests10_0 (a : AV) : List Bool := [decide (eF a > 3), decide (eM a > 4), decide (eTi a > 1), !(((eW a 2 == 0) && ((eW a 3 == 0) && true))), !(((eW a 4 == 0) && ((eW a 5 == 0) && true))), fitsR (eF a) (val2 (eW a 1) (eW a 0)), fitsR (eF a) (val2 (eW a 3) (eW a 2))]
theorem mcat10_0 (a : AV) : (mayT (rvL (shEnt 10 (.n .u8 0)) a 0)).cat goodM badM [false, false, false, false, false, true, true] = true := by kernel_rfl
theorem mcs10_0 (a : AV) : (mayT (rvL (shEnt 10 (.n .u8 0)) a 0)).cs [false, false, false, false, false, true, true] = mtests10_0 a := by kernel_rfl
theorem mval10_0 (a : AV) : (((mayT (rvL (shEnt 10 (.n .u8 0)) a 0)).go [false, false, false, false, false, true, true]).ev.map okQ) = some (.v (.bool (fitsR (eF a) (val2 (eW a 5) (eW a 4)))), true) := by kernel_rfl
theorem may10_0 (a : AV) : Mays (rvL (shEnt 10 (.n .u8 0)) a 0) (mtests10_0 a) [false, false, false, false, false, true, true] (fitsR (eF a) (val2 (eW a 5) (eW a 4))) := mays_of (rvL_sc _ _ _ _) (mcat10_0 a) (mcs10_0 a) (mval10_0 a)
end Go.Proofs.YtpfoifflfgiaoaaGreatDoor
namespace Go.Proofs.YtpfoifflfgiaoaaGreatDoor
open Go Go.RowKit Go.MapKept
def mtests10_1 (a : AV) : List Bool := [decide (eF a > 3), decide (eM a > 4), decide (eTi a > 1), !(((eW a 2 == 0) && ((eW a 3 == 0) && true))), !(((eW a 4 == 0) && ((eW a 5 == 0) && true))), fitsR (eF a) (val2 (eW a 1) (eW a 0)), fitsR (eF a) (val2 (eW a 3) (eW a 2))]
theorem mcat10_1 (a : AV) : (mayT (rvL (shEnt 10 (.n .u8 1)) a 0)).cat goodM badM [false, false, false, false, false, true, true] = true := by kernel_rfl
theorem mcs10_1 (a : AV) : (mayT (rvL (shEnt 10 (.n .u8 1)) a 0)).cs [false, false, false, false, false, true, true] = mtests10_1 a := by kernel_rfl
theorem mval10_1 (a : AV) : (((mayT (rvL (shEnt 10 (.n .u8 1)) a 0)).go [false, false, false, false, false, true, true]).ev.map okQ) = some (.v (.bool (fitsR (eF a) (val2 (eW a 5) (eW a 4)))), true) := by kernel_rfl
theorem may10_1 (a : AV) : Mays (rvL (shEnt 10 (.n .u8 1)) a 0) (mtests10_1 a) [false, false, false, false, false, true, true] (fitsR (eF a) (val2 (eW a 5) (eW a 4))) := mays_of (rvL_sc _ _ _ _) (mcat10_1 a) (mcs10_1 a) (mval10_1 a)
def mtests10_2 (a : AV) : List Bool := [decide (eF a > 3), decide (eM a > 4), decide (eTi a > 1), !(((eW a 2 == 0) && ((eW a 3 == 0) && true))), !(((eW a 4 == 0) && ((eW a 5 == 0) && true))), fitsR (eF a) (val2 (eW a 1) (eW a 0)), fitsR (eF a) (val2 (eW a 3) (eW a 2))]
theorem mcat10_2 (a : AV) : (mayT (rvL (shEnt 10 (.n .u8 2)) a 0)).cat goodM badM [false, false, false, false, false, true, true] = true := by kernel_rfl
theorem mcs10_2 (a : AV) : (mayT (rvL (shEnt 10 (.n .u8 2)) a 0)).cs [false, false, false, false, false, true, true] = mtests10_2 a := by kernel_rfl
theorem mval10_2 (a : AV) : (((mayT (rvL (shEnt 10 (.n .u8 2)) a 0)).go [false, false, false, false, false, true, true]).ev.map okQ) = some (.v (.bool (fitsR (eF a) (val2 (eW a 5) (eW a 4)))), true) := by kernel_rfl
theorem may10_2 (a : AV) : Mays (rvL (shEnt 10 (.n .u8 2)) a 0) (mtests10_2 a) [false, false, false, false, false, true, true] (fitsR (eF a) (val2 (eW a 5) (eW a 4))) := mays_of (rvL_sc _ _ _ _) (mcat10_2 a) (mcs10_2 a) (mval10_2 a)
def mtests10_3 (a : AV) : List Bool := [decide (eF a > 3), decide (eM a > 4), decide (eTi a > 1), !(((eW a 2 == 0) && ((eW a 3 == 0) && true))), !(((eW a 4 == 0) && ((eW a 5 == 0) && true))), fitsR (eF a) (val2 (eW a 1) (eW a 0)), fitsR (eF a) (val2 (eW a 3) (eW a 2))]
theorem mcat10_3 (a : AV) : (mayT (rvL (shEnt 10 (.n .u8 3)) a 0)).cat goodM badM [false, false, false, false, false, true, true] = true := by kernel_rfl
theorem mcs10_3 (a : AV) : (mayT (rvL (shEnt 10 (.n .u8 3)) a 0)).cs [false, false, false, false, false, true, true] = mtests10_3 a := by kernel_rfl
theorem mval10_3 (a : AV) : (((mayT (rvL (shEnt 10 (.n .u8 3)) a 0)).go [false, false, false, false, false, true, true]).ev.map okQ) = some (.v (.bool (fitsR (eF a) (val2 (eW a 5) (eW a 4)))), true) := by kernel_rfl
theorem may10_3 (a : AV) : Mays (rvL (shEnt 10 (.n .u8 3)) a 0) (mtests10_3 a) [false, false, false, false, false, true, true] (fitsR (eF a) (val2 (eW a 5) (eW a 4))) := mays_of (rvL_sc _ _ _ _) (mcat10_3 a) (mcs10_3 a) (mval10_3 a)
def mtests11_0 (a : AV) : List Bool := [decide (eF a > 3), decide (eM a > 4), decide (eTi a > 1), !(((eW a 2 == 0) && ((eW a 3 == 0) && true))), !(((eW a 4 == 0) && ((eW a 5 == 0) && true))), fitsR (eF a) (val2 (eW a 1) (eW a 0)), fitsR (eF a) (val2 (eW a 3) (eW a 2))]
theorem mcat11_0 (a : AV) : (mayT (rvL (shEnt 11 (.n .u8 0)) a 0)).cat goodM badM [false, false, false, false, false, true, true] = true := by kernel_rfl
theorem mcs11_0 (a : AV) : (mayT (rvL (shEnt 11 (.n .u8 0)) a 0)).cs [false, false, false, false, false, true, true] = mtests11_0 a := by kernel_rfl
theorem mval11_0 (a : AV) : (((mayT (rvL (shEnt 11 (.n .u8 0)) a 0)).go [false, false, false, false, false, true, true]).ev.map okQ) = some (.v (.bool (fitsR (eF a) (val2 (eW a 5) (eW a 4)))), true) := by kernel_rfl
theorem may11_0 (a : AV) : Mays (rvL (shEnt 11 (.n .u8 0)) a 0) (mtests11_0 a) [false, false, false, false, false, true, true] (fitsR (eF a) (val2 (eW a 5) (eW a 4))) := mays_of (rvL_sc _ _ _ _) (mcat11_0 a) (mcs11_0 a) (mval11_0 a)
def mtests11_1 (a : AV) : List Bool := [decide (eF a > 3), decide (eM a > 4), decide (eTi a > 1), !(((eW a 2 == 0) && ((eW a 3 == 0) && true))), !(((eW a 4 == 0) && ((eW a 5 == 0) && true))), fitsR (eF a) (val2 (eW a 1) (eW a 0)), fitsR (eF a) (val2 (eW a 3) (eW a 2))]
theorem mcat11_1 (a : AV) : (mayT (rvL (shEnt 11 (.n .u8 1)) a 0)).cat goodM badM [false, false, false, false, false, true, true] = true := by kernel_rfl
theorem mcs11_1 (a : AV) : (mayT (rvL (shEnt 11 (.n .u8 1)) a 0)).cs [false, false, false, false, false, true, true] = mtests11_1 a := by kernel_rfl
theorem mval11_1 (a : AV) : (((mayT (rvL (shEnt 11 (.n .u8 1)) a 0)).go [false, false, false, false, false, true, true]).ev.map okQ) = some (.v (.bool (fitsR (eF a) (val2 (eW a 5) (eW a 4)))), true) := by kernel_rfl
theorem may11_1 (a : AV) : Mays (rvL (shEnt 11 (.n .u8 1)) a 0) (mtests11_1 a) [false, false, false, false, false, true, true] (fitsR (eF a) (val2 (eW a 5) (eW a 4))) := mays_of (rvL_sc _ _ _ _) (mcat11_1 a) (mcs11_1 a) (mval11_1 a)
def mtests11_2 (a : AV) : List Bool := [decide (eF a > 3), decide (eM a > 4), decide (eTi a > 1), !(((eW a 2 == 0) && ((eW a 3 == 0) && true))), !(((eW a 4 == 0) && ((eW a 5 == 0) && true))), fitsR (eF a) (val2 (eW a 1) (eW a 0)), fitsR (eF a) (val2 (eW a 3) (eW a 2))]
theorem mcat11_2 (a : AV) : (mayT (rvL (shEnt 11 (.n .u8 2)) a 0)).cat goodM badM [false, false, false, false, false, true, true] = true := by kernel_rfl
theorem mcs11_2 (a : AV) : (mayT (rvL (shEnt 11 (.n .u8 2)) a 0)).cs [false, false, false, false, false, true, true] = mtests11_2 a := by kernel_rfl
theorem mval11_2 (a : AV) : (((mayT (rvL (shEnt 11 (.n .u8 2)) a 0)).go [false, false, false, false, false, true, true]).ev.map okQ) = some (.v (.bool (fitsR (eF a) (val2 (eW a 5) (eW a 4)))), true) := by kernel_rfl
theorem may11_2 (a : AV) : Mays (rvL (shEnt 11 (.n .u8 2)) a 0) (mtests11_2 a) [false, false, false, false, false, true, true] (fitsR (eF a) (val2 (eW a 5) (eW a 4))) := mays_of (rvL_sc _ _ _ _) (mcat11_2 a) (mcs11_2 a) (mval11_2 a)
def mtests11_3 (a : AV) : List Bool := [decide (eF a > 3), decide (eM a > 4), decide (eTi a > 1), !(((eW a 2 == 0) && ((eW a 3 == 0) && true))), !(((eW a 4 == 0) && ((eW a 5 == 0) && true))), fitsR (eF a) (val2 (eW a 1) (eW a 0)), fitsR (eF a) (val2 (eW a 3) (eW a 2))]
theorem mcat11_3 (a : AV) : (mayT (rvL (shEnt 11 (.n .u8 3)) a 0)).cat goodM badM [false, false, false, false, false, true, true] = true := by kernel_rfl
theorem mcs11_3 (a : AV) : (mayT (rvL (shEnt 11 (.n .u8 3)) a 0)).cs [false, false, false, false, false, true, true] = mtests11_3 a := by kernel_rfl
theorem mval11_3 (a : AV) : (((mayT (rvL (shEnt 11 (.n .u8 3)) a 0)).go [false, false, false, false, false, true, true]).ev.map okQ) = some (.v (.bool (fitsR (eF a) (val2 (eW a 5) (eW a 4)))), true) := by kernel_rfl
theorem may11_3 (a : AV) : Mays (rvL (shEnt 11 (.n .u8 3)) a 0) (mtests11_3 a) [false, false, false, false, false, true, true] (fitsR (eF a) (val2 (eW a 5) (eW a 4))) := mays_of (rvL_sc _ _ _ _) (mcat11_3 a) (mcs11_3 a) (mval11_3 a)
def mtests13 (a : AV) : List Bool := [decide (eF a > 3), decide (eM a > 4), decide (eTi a > 1), decide (eTo a > 3), !(eTo a == 0), !(((eW a 4 == 0) && ((eW a 5 == 0) && true))), fitsR (eF a) (val2 (eW a 1) (eW a 0)), fitsR (eF a) (val2 (eW a 3) (eW a 2))]
theorem mcat13 (a : AV) : (mayT (rvL (shEnt 13 (.i .u8)) a 0)).cat goodM badM [false, false, false, false, false, false, true, true] = true := by kernel_rfl
theorem mcs13 (a : AV) : (mayT (rvL (shEnt 13 (.i .u8)) a 0)).cs [false, false, false, false, false, false, true, true] = mtests13 a := by kernel_rfl
theorem mval13 (a : AV) : (((mayT (rvL (shEnt 13 (.i .u8)) a 0)).go [false, false, false, false, false, false, true, true]).ev.map okQ) = some (.v (.bool (fitsR (eF a) (val2 (eW a 5) (eW a 4)))), true) := by kernel_rfl
theorem may13 (a : AV) : Mays (rvL (shEnt 13 (.i .u8)) a 0) (mtests13 a) [false, false, false, false, false, false, true, true] (fitsR (eF a) (val2 (eW a 5) (eW a 4))) := mays_of (rvL_sc _ _ _ _) (mcat13 a) (mcs13 a) (mval13 a)
def mtests14 (a : AV) : List Bool := [decide (eF a > 3), decide (eM a > 4), decide (eTi a > 1), decide (eTo a > 3), !(eTo a == 0), !(((eW a 4 == 0) && ((eW a 5 == 0) && true))), fitsR (eF a) (val2 (eW a 1) (eW a 0)), fitsR (eF a) (val2 (eW a 3) (eW a 2))]
theorem mcat14 (a : AV) : (mayT (rvL (shEnt 14 (.i .u8)) a 0)).cat goodM badM [false, false, false, false, false, false, true, true] = true := by kernel_rfl
theorem mcs14 (a : AV) : (mayT (rvL (shEnt 14 (.i .u8)) a 0)).cs [false, false, false, false, false, false, true, true] = mtests14 a := by kernel_rfl
theorem mval14 (a : AV) : (((mayT (rvL (shEnt 14 (.i .u8)) a 0)).go [false, false, false, false, false, false, true, true]).ev.map okQ) = some (.v (.bool (fitsR (eF a) (val2 (eW a 5) (eW a 4)))), true) := by kernel_rfl
theorem may14 (a : AV) : Mays (rvL (shEnt 14 (.i .u8)) a 0) (mtests14 a) [false, false, false, false, false, false, true, true] (fitsR (eF a) (val2 (eW a 5) (eW a 4))) := mays_of (rvL_sc _ _ _ _) (mcat14 a) (mcs14 a) (mval14 a)
end Go.Proofs.YtpfoifflfgiaoaaGreatDoor
namespace Go.Proofs.YtpfoifflfgiaoaaGreatDoor
open Go Go.RowKit Go.MapKept

theorem fitsR_eq {f : Int} {A : Nat} (h0 : 0 ≤ f) (h : f ≤ 3) (hA : A < 2 ^ 128) : fitsR f A = fitsB f A := by
  have key : ∀ n : Nat, decide (lenB A ≤ n) = decide (A < 2 ^ n) := fun n => by
    have := lenB_gt (A := A) (n := n)
    rw [decide_eq_decide]
    omega
  have hv : f = 0 ∨ f = 1 ∨ f = 2 ∨ f = 3 := by omega
  rcases hv with rfl | rfl | rfl | rfl
  · show decide (lenB A ≤ 16) = _; rw [key]; simp [fitsB]
  · show decide (lenB A ≤ 32) = _; rw [key]; simp [fitsB]
  · show decide (lenB A ≤ 64) = _; rw [key]; simp [fitsB]
  · show decide (lenB A ≤ 128) = _; rw [key, decide_eq_true hA]; simp [fitsB]
/-- what May answers of an entry -/
def MaySays (op f to m ti a1 a0 b1 b0 c1 c0 : Int) : Prop := ∃ b : Bool, Says Tryz.prog G0 9 [entV op f to m ti a1 a0 b1 b0 c1 c0] (.v (.bool b)) ∧ (b = true ↔ MayP op f to m ti a1 a0 b1 b0 c1 c0)
theorem may_none (a : AV) (h : eOp a < 1 ∨ 14 < eOp a) : Says Tryz.prog G0 9 (rvL shAny a 0) (.b false) := by
  have done : ∀ p, (mayT (rvL shAny a 0)).cs p = p → (((mayT (rvL shAny a 0)).go p).ev.map okQ) = some (.b false, true) → Says Tryz.prog G0 9 (rvL shAny a 0) (.b false) := fun p hc hg => says_val (n := 3000) ext0_ok noNG litG0 CM_ok (rvL_sc _ _ _ _) (by
    have := Tr.path_ev hc
    unfold mayT at this hg
    rw [this]
    exact hg)
  have c1 : (mayT (rvL shAny a 0)).cs [true] = [decide (eOp a < 1)] := by kernel_rfl
  have c2 : (mayT (rvL shAny a 0)).cs [false, true] = [decide (eOp a < 1), decide (eOp a > 14)] := by kernel_rfl
  cases e1 : decide (eOp a < 1) with
  | true => exact done [true] (by rw [c1, e1]) (by kernel_rfl)
  | false =>
    have e2 : decide (eOp a > 14) = true := decide_eq_true (by have := of_decide_eq_false e1; omega)
    exact done [false, true] (by rw [c2, e1, e2]) (by kernel_rfl)
theorem may_kind (op : Int) (hop : op = 10 ∨ op = 11) (a : AV) (h : 4 ≤ eTo a) : Says Tryz.prog G0 9 (rvL (shEnt op (.i .u8)) a 0) (.b false) := by
  have done : ∀ p, (mayT (rvL (shEnt op (.i .u8)) a 0)).cs p = p → (((mayT (rvL (shEnt op (.i .u8)) a 0)).go p).ev.map okQ) = some (.b false, true) → Says Tryz.prog G0 9 (rvL (shEnt op (.i .u8)) a 0) (.b false) := fun p hc hg => says_val (n := 3000) ext0_ok noNG litG0 CM_ok (rvL_sc _ _ _ _) (by
    have := Tr.path_ev hc
    unfold mayT at this hg
    rw [this]
    exact hg)
  have c4 : (mayT (rvL (shEnt op (.i .u8)) a 0)).cs [false, false, false, true] = [decide (eF a > 3), decide (eM a > 4), decide (eTi a > 1), decide (eTo a > 3)] := by rcases hop with rfl | rfl <;> kernel_rfl
  have c3 : (mayT (rvL (shEnt op (.i .u8)) a 0)).cs [false, false, true] = [decide (eF a > 3), decide (eM a > 4), decide (eTi a > 1)] := by rcases hop with rfl | rfl <;> kernel_rfl
  have c2 : (mayT (rvL (shEnt op (.i .u8)) a 0)).cs [false, true] = [decide (eF a > 3), decide (eM a > 4)] := by rcases hop with rfl | rfl <;> kernel_rfl
  have c1 : (mayT (rvL (shEnt op (.i .u8)) a 0)).cs [true] = [decide (eF a > 3)] := by rcases hop with rfl | rfl <;> kernel_rfl
  have key : decide (eTo a > 3) = true := decide_eq_true (by omega)
  cases e1 : decide (eF a > 3) with
  | true => exact done [true] (by rw [c1, e1]) (by rcases hop with rfl | rfl <;> kernel_rfl)
  | false =>
    cases e2 : decide (eM a > 4) with
    | true => exact done [false, true] (by rw [c2, e1, e2]) (by rcases hop with rfl | rfl <;> kernel_rfl)
    | false =>
      cases e3 : decide (eTi a > 1) with
      | true => exact done [false, false, true] (by rw [c3, e1, e2, e3]) (by rcases hop with rfl | rfl <;> kernel_rfl)
      | false => exact done [false, false, false, true] (by rw [c4, e1, e2, e3, key]) (by rcases hop with rfl | rfl <;> kernel_rfl)
section
variable {op f to m ti a1 a0 b1 b0 c1 c0 : Int}
theorem mays_no {l : List AV} (hd : ∀ e, denL e [entV op f to m ti a1 a0 b1 b0 c1 c0] = denL e l) (h : Says Tryz.prog G0 9 l (.b false)) (hm : ¬ MayP op f to m ti a1 a0 b1 b0 c1 c0) : MaySays op f to m ti a1 a0 b1 b0 c1 c0 :=
  ⟨false, h.congr hd fun e => rfl, by simpa using hm⟩
theorem mays_fin {l : List AV} {L p : List Bool} {v : Bool} (hd : ∀ e, denL e [entV op f to m ti a1 a0 b1 b0 c1 c0] = denL e l) (h : Mays l L p v) (hm : (L = p ∧ v = true) ↔ MayP op f to m ti a1 a0 b1 b0 c1 c0) : MaySays op f to m ti a1 a0 b1 b0 c1 c0 := by
  obtain ⟨r, h1, h2, h3⟩ := h
  by_cases he : L = p
  · obtain rfl := h2 he
    exact ⟨v, h1.congr hd fun e => rfl, by rw [← hm]; simp [he]⟩
  · obtain rfl := h3 he
    exact mays_no hd h1 fun hmm => he (hm.2 hmm).1
theorem W_lt (h1 : U64 a1) (h0 : U64 a0) : val2 a0 a1 < 2 ^ 128 := val2_lt h0 h1
theorem miff (h : EntR op f to m ti a1 a0 b1 b0 c1 c0) (h12 : op ≠ 12) (hr : 1 ≤ op ∧ op ≤ 14) {tB tC tT : Prop} (hB : tB ↔ (nOp op < 2 → b1 = 0 ∧ b0 = 0)) (hC : tC ↔ (nOp op < 3 → c1 = 0 ∧ c0 = 0)) (hT : (tT ∧ f ≤ 3 ∧ m ≤ 4 ∧ ti ≤ 1) ↔ ((f ≤ 3 ∧ m ≤ 4 ∧ ti ≤ 1 ∧ to ≤ 3) ∧ (to = 0 ∨ op = 10 ∨ op = 11 ∨ op = 12))) :
    ((tT ∧ f ≤ 3 ∧ m ≤ 4 ∧ ti ≤ 1) ∧ tB ∧ tC ∧ fitsR f (val2 a0 a1) = true ∧ fitsR f (val2 b0 b1) = true ∧ fitsR f (val2 c0 c1) = true) ↔ MayP op f to m ti a1 a0 b1 b0 c1 c0 := by
  rw [hT, hB, hC]
  unfold MayP
  constructor
  · rintro ⟨⟨⟨g1, g2, g3, g4⟩, g5⟩, g6, g7, g8, g9, g10⟩
    rw [fitsR_eq h.f.1 g1 (W_lt h.a1 h.a0)] at g8
    rw [fitsR_eq h.f.1 g1 (W_lt h.b1 h.b0)] at g9
    rw [fitsR_eq h.f.1 g1 (W_lt h.c1 h.c0)] at g10
    exact ⟨⟨hr, g1, g2, g3, g4⟩, g5, g6, g7, fun hh => absurd hh h12, fun _ => ⟨g8, g9, g10⟩⟩
  · rintro ⟨⟨_, g1, g2, g3, g4⟩, g5, g6, g7, _, g9⟩
    obtain ⟨k1, k2, k3⟩ := g9 h12
    rw [← fitsR_eq h.f.1 g1 (W_lt h.a1 h.a0)] at k1
    rw [← fitsR_eq h.f.1 g1 (W_lt h.b1 h.b0)] at k2
    rw [← fitsR_eq h.f.1 g1 (W_lt h.c1 h.c0)] at k3
    exact ⟨⟨⟨g1, g2, g3, g4⟩, g5⟩, g6, g7, k1, k2, k3⟩
theorem mtwo (h : EntR op f to m ti a1 a0 b1 b0 c1 c0) (ho : nOp op = 2) (h12 : op ≠ 12) (hr : 1 ≤ op ∧ op ≤ 14) (ht : ¬ (op = 10 ∨ op = 11 ∨ op = 12)) :
    ([decide (f > 3), decide (m > 4), decide (ti > 1), decide (to > 3), !(to == 0), !(((c1 == 0) && ((c0 == 0) && true))), fitsR f (val2 a0 a1), fitsR f (val2 b0 b1)] = [false, false, false, false, false, false, true, true] ∧ fitsR f (val2 c0 c1) = true) ↔ MayP op f to m ti a1 a0 b1 b0 c1 c0 := by
  rw [← miff h h12 hr (tB := True) (tC := c1 = 0 ∧ c0 = 0) (tT := to = 0) (by simp [ho]) (by simp [ho]) (by omega)]
  simp only [List.cons.injEq, Bool.not_eq_false', decide_eq_true_eq, decide_eq_false_iff_not, beq_iff_eq, Bool.and_eq_true, and_true, Bool.and_true, true_and]
  constructor
  · rintro ⟨⟨g1, g2, g3, g4, g5, g6, g7, g8⟩, g9⟩
    exact ⟨⟨g5, by omega, by omega, by omega⟩, g6, g7, g8, g9⟩
  · rintro ⟨⟨g5, g1, g2, g3⟩, g6, g7, g8, g9⟩
    exact ⟨⟨by omega, by omega, by omega, by omega, g5, g6, g7, g8⟩, g9⟩
theorem mthree (h : EntR op f to m ti a1 a0 b1 b0 c1 c0) (ho : nOp op = 3) (h12 : op ≠ 12) (hr : 1 ≤ op ∧ op ≤ 14) (ht : ¬ (op = 10 ∨ op = 11 ∨ op = 12)) :
    ([decide (f > 3), decide (m > 4), decide (ti > 1), decide (to > 3), !(to == 0), fitsR f (val2 a0 a1), fitsR f (val2 b0 b1)] = [false, false, false, false, false, true, true] ∧ fitsR f (val2 c0 c1) = true) ↔ MayP op f to m ti a1 a0 b1 b0 c1 c0 := by
  rw [← miff h h12 hr (tB := True) (tC := True) (tT := to = 0) (by simp [ho]) (by simp [ho]) (by omega)]
  simp only [List.cons.injEq, Bool.not_eq_false', decide_eq_true_eq, decide_eq_false_iff_not, beq_iff_eq, Bool.and_eq_true, and_true, Bool.and_true, true_and]
  constructor
  · rintro ⟨⟨g1, g2, g3, g4, g5, g7, g8⟩, g9⟩
    exact ⟨⟨g5, by omega, by omega, by omega⟩, g7, g8, g9⟩
  · rintro ⟨⟨g5, g1, g2, g3⟩, g7, g8, g9⟩
    exact ⟨⟨by omega, by omega, by omega, by omega, g5, g7, g8⟩, g9⟩
theorem mone (h : EntR op f to m ti a1 a0 b1 b0 c1 c0) (ho : nOp op = 1) (h12 : op ≠ 12) (hr : 1 ≤ op ∧ op ≤ 14) (ht : ¬ (op = 10 ∨ op = 11 ∨ op = 12)) :
    ([decide (f > 3), decide (m > 4), decide (ti > 1), decide (to > 3), !(to == 0), !(((b1 == 0) && ((b0 == 0) && true))), !(((c1 == 0) && ((c0 == 0) && true))), fitsR f (val2 a0 a1), fitsR f (val2 b0 b1)] = [false, false, false, false, false, false, false, true, true] ∧ fitsR f (val2 c0 c1) = true) ↔ MayP op f to m ti a1 a0 b1 b0 c1 c0 := by
  rw [← miff h h12 hr (tB := b1 = 0 ∧ b0 = 0) (tC := c1 = 0 ∧ c0 = 0) (tT := to = 0) (by simp [ho]) (by simp [ho]) (by omega)]
  simp only [List.cons.injEq, Bool.not_eq_false', decide_eq_true_eq, decide_eq_false_iff_not, beq_iff_eq, Bool.and_eq_true, and_true, Bool.and_true, true_and]
  constructor
  · rintro ⟨⟨g1, g2, g3, g4, g5, g6, g6', g7, g8⟩, g9⟩
    exact ⟨⟨g5, by omega, by omega, by omega⟩, g6, g6', g7, g8, g9⟩
  · rintro ⟨⟨g5, g1, g2, g3⟩, g6, g6', g7, g8, g9⟩
    exact ⟨⟨by omega, by omega, by omega, by omega, g5, g6, g6', g7, g8⟩, g9⟩
theorem mkind (h : EntR op f to m ti a1 a0 b1 b0 c1 c0) (ho : op = 10 ∨ op = 11) (ht : to ≤ 3) :
    ([decide (f > 3), decide (m > 4), decide (ti > 1), !(((b1 == 0) && ((b0 == 0) && true))), !(((c1 == 0) && ((c0 == 0) && true))), fitsR f (val2 a0 a1), fitsR f (val2 b0 b1)] = [false, false, false, false, false, true, true] ∧ fitsR f (val2 c0 c1) = true) ↔ MayP op f to m ti a1 a0 b1 b0 c1 c0 := by
  have hn : nOp op = 1 := by rcases ho with rfl | rfl <;> decide
  rw [← miff h (by omega) (by omega) (tB := b1 = 0 ∧ b0 = 0) (tC := c1 = 0 ∧ c0 = 0) (tT := True) (by simp [hn]) (by simp [hn]) ⟨fun ⟨_, g1, g2, g3⟩ => ⟨⟨g1, g2, g3, ht⟩, by omega⟩, fun ⟨⟨g1, g2, g3, _⟩, _⟩ => ⟨trivial, g1, g2, g3⟩⟩]
  simp only [List.cons.injEq, Bool.not_eq_false', decide_eq_true_eq, decide_eq_false_iff_not, beq_iff_eq, Bool.and_eq_true, and_true, Bool.and_true, true_and]
  constructor
  · rintro ⟨⟨g1, g2, g3, g6, g6', g7, g8⟩, g9⟩
    exact ⟨⟨by omega, by omega, by omega⟩, g6, g6', g7, g8, g9⟩
  · rintro ⟨⟨g1, g2, g3⟩, g6, g6', g7, g8, g9⟩
    exact ⟨⟨by omega, by omega, by omega, g6, g6', g7, g8⟩, g9⟩
theorem may_but (h : EntR op f to m ti a1 a0 b1 b0 c1 c0) (h12 : op ≠ 12) : MaySays op f to m ti a1 a0 b1 b0 c1 c0 := by
  obtain ⟨g0, g1, g2, g3, g4, g5, g6, g7, g8, g9, g10⟩ := mk_nums h
  by_cases hop : op < 1 ∨ 14 < op
  · refine mays_no (den_any h) (may_none _ (by rw [g0]; exact hop)) fun hm => ?_
    have := hm.1.1
    omega
  have hop' : 1 ≤ op ∧ op ≤ 14 := by omega
  clear hop
  have split14 : op = 1 ∨ op = 2 ∨ op = 3 ∨ op = 4 ∨ op = 5 ∨ op = 6 ∨ op = 7 ∨ op = 8 ∨ op = 9 ∨ op = 10 ∨ op = 11 ∨ op = 13 ∨ op = 14 := by omega
  have kinds : (4 : Int) ≤ to ∨ to = 0 ∨ to = 1 ∨ to = 2 ∨ to = 3 := by have := h.to; omega
  have bad4 : (op = 10 ∨ op = 11) → 4 ≤ to → MaySays op f to m ti a1 a0 b1 b0 c1 c0 := fun ho h4 => mays_no (den_ent h op rfl) (may_kind op ho _ (by rw [g2]; exact h4)) fun hm => by
    have := hm.1.2.2.2.2
    omega
  rcases split14 with ho | ho | ho | ho | ho | ho | ho | ho | ho | ho | ho | ho | ho
  · refine mays_fin (den_ent h 1 ho) (may1 _) ?_
    unfold mtests1; rw [g1, g3, g4, g2, g5, g6, g7, g8, g9, g10]
    exact mtwo h (by rw [ho]; decide) (by omega) hop' (by omega)
  · refine mays_fin (den_ent h 2 ho) (may2 _) ?_
    unfold mtests2; rw [g1, g3, g4, g2, g5, g6, g7, g8, g9, g10]
    exact mtwo h (by rw [ho]; decide) (by omega) hop' (by omega)
  · refine mays_fin (den_ent h 3 ho) (may3 _) ?_
    unfold mtests3; rw [g1, g3, g4, g2, g5, g6, g7, g8, g9, g10]
    exact mtwo h (by rw [ho]; decide) (by omega) hop' (by omega)
  · refine mays_fin (den_ent h 4 ho) (may4 _) ?_
    unfold mtests4; rw [g1, g3, g4, g2, g5, g6, g7, g8, g9, g10]
    exact mtwo h (by rw [ho]; decide) (by omega) hop' (by omega)
  · refine mays_fin (den_ent h 5 ho) (may5 _) ?_
    unfold mtests5; rw [g1, g3, g4, g2, g5, g6, g7, g8, g9, g10]
    exact mone h (by rw [ho]; decide) (by omega) hop' (by omega)
  · refine mays_fin (den_ent h 6 ho) (may6 _) ?_
    unfold mtests6; rw [g1, g3, g4, g2, g5, g6, g7, g8, g9, g10]
    exact mthree h (by rw [ho]; decide) (by omega) hop' (by omega)
  · refine mays_fin (den_ent h 7 ho) (may7 _) ?_
    unfold mtests7; rw [g1, g3, g4, g2, g5, g6, g7, g8, g9, g10]
    exact mtwo h (by rw [ho]; decide) (by omega) hop' (by omega)
  · refine mays_fin (den_ent h 8 ho) (may8 _) ?_
    unfold mtests8; rw [g1, g3, g4, g2, g5, g6, g7, g8, g9, g10]
    exact mone h (by rw [ho]; decide) (by omega) hop' (by omega)
  · refine mays_fin (den_ent h 9 ho) (may9 _) ?_
    unfold mtests9; rw [g1, g3, g4, g2, g5, g6, g7, g8, g9, g10]
    exact mone h (by rw [ho]; decide) (by omega) hop' (by omega)
  · rcases kinds with h4 | ht | ht | ht | ht
    · exact bad4 (.inl ho) h4
    · refine mays_fin (den_entk h 10 0 ho ht) (may10_0 _) ?_
      unfold mtests10_0; rw [g1, g3, g4, g5, g6, g7, g8, g9, g10]
      exact mkind h (by omega) (by omega)
    · refine mays_fin (den_entk h 10 1 ho ht) (may10_1 _) ?_
      unfold mtests10_1; rw [g1, g3, g4, g5, g6, g7, g8, g9, g10]
      exact mkind h (by omega) (by omega)
    · refine mays_fin (den_entk h 10 2 ho ht) (may10_2 _) ?_
      unfold mtests10_2; rw [g1, g3, g4, g5, g6, g7, g8, g9, g10]
      exact mkind h (by omega) (by omega)
    · refine mays_fin (den_entk h 10 3 ho ht) (may10_3 _) ?_
      unfold mtests10_3; rw [g1, g3, g4, g5, g6, g7, g8, g9, g10]
      exact mkind h (by omega) (by omega)
  · rcases kinds with h4 | ht | ht | ht | ht
    · exact bad4 (.inr ho) h4
    · refine mays_fin (den_entk h 11 0 ho ht) (may11_0 _) ?_
      unfold mtests11_0; rw [g1, g3, g4, g5, g6, g7, g8, g9, g10]
      exact mkind h (by omega) (by omega)
    · refine mays_fin (den_entk h 11 1 ho ht) (may11_1 _) ?_
      unfold mtests11_1; rw [g1, g3, g4, g5, g6, g7, g8, g9, g10]
      exact mkind h (by omega) (by omega)
    · refine mays_fin (den_entk h 11 2 ho ht) (may11_2 _) ?_
      unfold mtests11_2; rw [g1, g3, g4, g5, g6, g7, g8, g9, g10]
      exact mkind h (by omega) (by omega)
    · refine mays_fin (den_entk h 11 3 ho ht) (may11_3 _) ?_
      unfold mtests11_3; rw [g1, g3, g4, g5, g6, g7, g8, g9, g10]
      exact mkind h (by omega) (by omega)
  · refine mays_fin (den_ent h 13 ho) (may13 _) ?_
    unfold mtests13; rw [g1, g3, g4, g2, g5, g6, g7, g8, g9, g10]
    exact mtwo h (by rw [ho]; decide) (by omega) hop' (by omega)
  · refine mays_fin (den_ent h 14 ho) (may14 _) ?_
    unfold mtests14; rw [g1, g3, g4, g2, g5, g6, g7, g8, g9, g10]
    exact mtwo h (by rw [ho]; decide) (by omega) hop' (by omega)
end
end Go.Proofs.YtpfoifflfgiaoaaGreatDoor
