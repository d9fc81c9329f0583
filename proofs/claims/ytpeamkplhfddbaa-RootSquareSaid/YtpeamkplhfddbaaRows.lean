/-
  No cell of these rows narrows 'for every input' (looked for: loops, veiled, ifaces, maps, wideKeys, modest, calm, conditions, laid).
  DERIVED. THE GIVEN ROWS OF THIS SEAT. 12 by the template 'for every input the law returns true; each argument reads behind the call as it read before'; 0 by the template 'total and deterministic' (their statements: YtpeamkplhfddbaaTotals.lean).
  GIVEN WITH THE SEED: the statements are not yours to turn. If you find one false, say at which input.
  Laid BY PROGRAM, IN A SANDBOX (cutbox-rows.mjs): the forced cells as the released guide's own fill.sh prints them over the translation ee640107f2514473… (all of the seat's roots in one cut). By AI agents, Wed Nov 11 2026. No macro, syntax, notation, axiom, sorry.
-/
import Derived.Test.YtpeamkplhfddbaaChecked
import GoSem.Claim
import GoSem.ClaimJoined
import GoSem.ClaimMapViews
import Derived.JoinedTies
import Derived.KernelRfl
namespace Go.Proofs.Ytpeamkplhfddbaa
/- THE CELL 'sum', in the pinned program and in every row, IS THE sha256 OF THE DUMP (.gsa) THAT YtpeamkplhfddbaaProg.lean LOADS. Nothing in Lean hashes anything: it is a label: what it is worth is what the hold of that sum in a sandbox is worth. -/
noncomputable def Try.pinned : Pinned := { name := "ytpeamkplhfddbaa", sum := "ee640107f2514473558151486b96aa0ad1316373b619a0d016f441bd7577a194", checked := Try.checked }
namespace Rows
def none {H : Type} : Left H := { results := [], args := [] }

/-- 'hairsbreadthlaw15.RoundCuts': WHATEVER THE INPUT: true; the input reads as it did. -/
def roundCutsSpec : ChangeSpec := { name := "roundCuts", fn := fun _ => fun
  | [d1, d2, d3, d4] => { results := [.lit (.bool true)], args := [d1, d2, d3, d4] }
  | _ => none }
def roundCutsRow : OpenClaim := { program := "ytpeamkplhfddbaa", sum := "ee640107f2514473558151486b96aa0ad1316373b619a0d016f441bd7577a194", func := "hairsbreadth/hairsbreadthlaw15.RoundCuts", spec := "roundCuts", inPlace := ["math/bits.Add64"], unfollowed := true, recurses := true, apart := false }
def RoundCutsSaid : Prop := roundCutsRow.holds Try.pinned (OpenSpec.ofChange roundCutsSpec)

/-- ITS FALSE NEIGHBOUR: 'it returns false'. Refute it at one input. -/
def roundCutsWrong : ChangeSpec := { name := "roundCuts", fn := fun _ => fun
  | [d1, d2, d3, d4] => { results := [.lit (.bool false)], args := [d1, d2, d3, d4] }
  | _ => none }
def RoundCutsWrongFalsely : Prop := roundCutsRow.holds Try.pinned (OpenSpec.ofChange roundCutsWrong)

/-- 'hairsbreadthlaw15.RoundKnown': WHATEVER THE INPUT: true; the input reads as it did. -/
def roundKnownSpec : ChangeSpec := { name := "roundKnown", fn := fun _ => fun
  | [] => { results := [.lit (.bool true)], args := [] }
  | _ => none }
def roundKnownRow : OpenClaim := { program := "ytpeamkplhfddbaa", sum := "ee640107f2514473558151486b96aa0ad1316373b619a0d016f441bd7577a194", func := "hairsbreadth/hairsbreadthlaw15.RoundKnown", spec := "roundKnown", inPlace := ["math/bits.Add64"], unfollowed := true, recurses := true, apart := false }
def RoundKnownSaid : Prop := roundKnownRow.holds Try.pinned (OpenSpec.ofChange roundKnownSpec)

/-- ITS FALSE NEIGHBOUR: 'it returns false'. Refute it at one input. -/
def roundKnownWrong : ChangeSpec := { name := "roundKnown", fn := fun _ => fun
  | [] => { results := [.lit (.bool false)], args := [] }
  | _ => none }
def RoundKnownWrongFalsely : Prop := roundKnownRow.holds Try.pinned (OpenSpec.ofChange roundKnownWrong)

/-- 'hairsbreadthlaw15.RoundJam': WHATEVER THE INPUT: true; the input reads as it did. -/
def roundJamSpec : ChangeSpec := { name := "roundJam", fn := fun _ => fun
  | [d1, d2, d3, d4, d5] => { results := [.lit (.bool true)], args := [d1, d2, d3, d4, d5] }
  | _ => none }
def roundJamRow : OpenClaim := { program := "ytpeamkplhfddbaa", sum := "ee640107f2514473558151486b96aa0ad1316373b619a0d016f441bd7577a194", func := "hairsbreadth/hairsbreadthlaw15.RoundJam", spec := "roundJam", inPlace := ["math/bits.Add64"], unfollowed := true, recurses := true, apart := false }
def RoundJamSaid : Prop := roundJamRow.holds Try.pinned (OpenSpec.ofChange roundJamSpec)

/-- ITS FALSE NEIGHBOUR: 'it returns false'. Refute it at one input. -/
def roundJamWrong : ChangeSpec := { name := "roundJam", fn := fun _ => fun
  | [d1, d2, d3, d4, d5] => { results := [.lit (.bool false)], args := [d1, d2, d3, d4, d5] }
  | _ => none }
def RoundJamWrongFalsely : Prop := roundJamRow.holds Try.pinned (OpenSpec.ofChange roundJamWrong)

/-- 'hairsbreadthlaw15.RoundMirror': WHATEVER THE INPUT: true; the input reads as it did. -/
def roundMirrorSpec : ChangeSpec := { name := "roundMirror", fn := fun _ => fun
  | [d1, d2, d3] => { results := [.lit (.bool true)], args := [d1, d2, d3] }
  | _ => none }
def roundMirrorRow : OpenClaim := { program := "ytpeamkplhfddbaa", sum := "ee640107f2514473558151486b96aa0ad1316373b619a0d016f441bd7577a194", func := "hairsbreadth/hairsbreadthlaw15.RoundMirror", spec := "roundMirror", inPlace := ["math/bits.Add64"], unfollowed := true, recurses := true, apart := false }
def RoundMirrorSaid : Prop := roundMirrorRow.holds Try.pinned (OpenSpec.ofChange roundMirrorSpec)

/-- ITS FALSE NEIGHBOUR: 'it returns false'. Refute it at one input. -/
def roundMirrorWrong : ChangeSpec := { name := "roundMirror", fn := fun _ => fun
  | [d1, d2, d3] => { results := [.lit (.bool false)], args := [d1, d2, d3] }
  | _ => none }
def RoundMirrorWrongFalsely : Prop := roundMirrorRow.holds Try.pinned (OpenSpec.ofChange roundMirrorWrong)

/-- 'hairsbreadthlaw15.RoundOrder': WHATEVER THE INPUT: true; the input reads as it did. -/
def roundOrderSpec : ChangeSpec := { name := "roundOrder", fn := fun _ => fun
  | [d1, d2, d3, d4, d5] => { results := [.lit (.bool true)], args := [d1, d2, d3, d4, d5] }
  | _ => none }
def roundOrderRow : OpenClaim := { program := "ytpeamkplhfddbaa", sum := "ee640107f2514473558151486b96aa0ad1316373b619a0d016f441bd7577a194", func := "hairsbreadth/hairsbreadthlaw15.RoundOrder", spec := "roundOrder", inPlace := ["math/bits.Add64"], unfollowed := true, recurses := true, apart := false }
def RoundOrderSaid : Prop := roundOrderRow.holds Try.pinned (OpenSpec.ofChange roundOrderSpec)

/-- ITS FALSE NEIGHBOUR: 'it returns false'. Refute it at one input. -/
def roundOrderWrong : ChangeSpec := { name := "roundOrder", fn := fun _ => fun
  | [d1, d2, d3, d4, d5] => { results := [.lit (.bool false)], args := [d1, d2, d3, d4, d5] }
  | _ => none }
def RoundOrderWrongFalsely : Prop := roundOrderRow.holds Try.pinned (OpenSpec.ofChange roundOrderWrong)

/-- 'hairsbreadthlaw06.RootAll': WHATEVER THE INPUT: true; the input reads as it did. -/
def rootAllSpec : ChangeSpec := { name := "rootAll", fn := fun _ => fun
  | [d] => { results := [.lit (.bool true)], args := [d] }
  | _ => none }
def rootAllRow : OpenClaim := { program := "ytpeamkplhfddbaa", sum := "ee640107f2514473558151486b96aa0ad1316373b619a0d016f441bd7577a194", func := "hairsbreadth/hairsbreadthlaw06.RootAll", spec := "rootAll", inPlace := ["math/bits.Add64"], unfollowed := true, recurses := true, apart := false }
def RootAllSaid : Prop := rootAllRow.holds Try.pinned (OpenSpec.ofChange rootAllSpec)

/-- ITS FALSE NEIGHBOUR: 'it returns false'. Refute it at one input. -/
def rootAllWrong : ChangeSpec := { name := "rootAll", fn := fun _ => fun
  | [d] => { results := [.lit (.bool false)], args := [d] }
  | _ => none }
def RootAllWrongFalsely : Prop := rootAllRow.holds Try.pinned (OpenSpec.ofChange rootAllWrong)

/-- 'hairsbreadthlaw06.RootOrder': WHATEVER THE INPUT: true; the input reads as it did. -/
def rootOrderSpec : ChangeSpec := { name := "rootOrder", fn := fun _ => fun
  | [d1, d2] => { results := [.lit (.bool true)], args := [d1, d2] }
  | _ => none }
def rootOrderRow : OpenClaim := { program := "ytpeamkplhfddbaa", sum := "ee640107f2514473558151486b96aa0ad1316373b619a0d016f441bd7577a194", func := "hairsbreadth/hairsbreadthlaw06.RootOrder", spec := "rootOrder", inPlace := ["math/bits.Add64"], unfollowed := true, recurses := true, apart := false }
def RootOrderSaid : Prop := rootOrderRow.holds Try.pinned (OpenSpec.ofChange rootOrderSpec)

/-- ITS FALSE NEIGHBOUR: 'it returns false'. Refute it at one input. -/
def rootOrderWrong : ChangeSpec := { name := "rootOrder", fn := fun _ => fun
  | [d1, d2] => { results := [.lit (.bool false)], args := [d1, d2] }
  | _ => none }
def RootOrderWrongFalsely : Prop := rootOrderRow.holds Try.pinned (OpenSpec.ofChange rootOrderWrong)

/-- 'hairsbreadthlaw06.RootKnown': WHATEVER THE INPUT: true; the input reads as it did. -/
def rootKnownSpec : ChangeSpec := { name := "rootKnown", fn := fun _ => fun
  | [] => { results := [.lit (.bool true)], args := [] }
  | _ => none }
def rootKnownRow : OpenClaim := { program := "ytpeamkplhfddbaa", sum := "ee640107f2514473558151486b96aa0ad1316373b619a0d016f441bd7577a194", func := "hairsbreadth/hairsbreadthlaw06.RootKnown", spec := "rootKnown", inPlace := ["math/bits.Add64"], unfollowed := true, recurses := true, apart := false }
def RootKnownSaid : Prop := rootKnownRow.holds Try.pinned (OpenSpec.ofChange rootKnownSpec)

/-- ITS FALSE NEIGHBOUR: 'it returns false'. Refute it at one input. -/
def rootKnownWrong : ChangeSpec := { name := "rootKnown", fn := fun _ => fun
  | [] => { results := [.lit (.bool false)], args := [] }
  | _ => none }
def RootKnownWrongFalsely : Prop := rootKnownRow.holds Try.pinned (OpenSpec.ofChange rootKnownWrong)

/-- 'hairsbreadthlaw15.RoundNear': WHATEVER THE INPUT: true; the input reads as it did. -/
def roundNearSpec : ChangeSpec := { name := "roundNear", fn := fun _ => fun
  | [d1, d2, d3, d4] => { results := [.lit (.bool true)], args := [d1, d2, d3, d4] }
  | _ => none }
def roundNearRow : OpenClaim := { program := "ytpeamkplhfddbaa", sum := "ee640107f2514473558151486b96aa0ad1316373b619a0d016f441bd7577a194", func := "hairsbreadth/hairsbreadthlaw15.RoundNear", spec := "roundNear", inPlace := ["math/bits.Add64", "math/bits.Sub64"], unfollowed := true, recurses := true, apart := false }
def RoundNearSaid : Prop := roundNearRow.holds Try.pinned (OpenSpec.ofChange roundNearSpec)

/-- ITS FALSE NEIGHBOUR: 'it returns false'. Refute it at one input. -/
def roundNearWrong : ChangeSpec := { name := "roundNear", fn := fun _ => fun
  | [d1, d2, d3, d4] => { results := [.lit (.bool false)], args := [d1, d2, d3, d4] }
  | _ => none }
def RoundNearWrongFalsely : Prop := roundNearRow.holds Try.pinned (OpenSpec.ofChange roundNearWrong)

/-- 'hairsbreadthlaw06.RootBetween': WHATEVER THE INPUT: true; the input reads as it did. -/
def rootBetweenSpec : ChangeSpec := { name := "rootBetween", fn := fun _ => fun
  | [d] => { results := [.lit (.bool true)], args := [d] }
  | _ => none }
def rootBetweenRow : OpenClaim := { program := "ytpeamkplhfddbaa", sum := "ee640107f2514473558151486b96aa0ad1316373b619a0d016f441bd7577a194", func := "hairsbreadth/hairsbreadthlaw06.RootBetween", spec := "rootBetween", inPlace := ["math/bits.Add64"], unfollowed := true, recurses := true, apart := false }
def RootBetweenSaid : Prop := rootBetweenRow.holds Try.pinned (OpenSpec.ofChange rootBetweenSpec)

/-- ITS FALSE NEIGHBOUR: 'it returns false'. Refute it at one input. -/
def rootBetweenWrong : ChangeSpec := { name := "rootBetween", fn := fun _ => fun
  | [d] => { results := [.lit (.bool false)], args := [d] }
  | _ => none }
def RootBetweenWrongFalsely : Prop := rootBetweenRow.holds Try.pinned (OpenSpec.ofChange rootBetweenWrong)

/-- 'hairsbreadthlaw06.RootSquare': WHATEVER THE INPUT: true; the input reads as it did. -/
def rootSquareSpec : ChangeSpec := { name := "rootSquare", fn := fun _ => fun
  | [d] => { results := [.lit (.bool true)], args := [d] }
  | _ => none }
def rootSquareRow : OpenClaim := { program := "ytpeamkplhfddbaa", sum := "ee640107f2514473558151486b96aa0ad1316373b619a0d016f441bd7577a194", func := "hairsbreadth/hairsbreadthlaw06.RootSquare", spec := "rootSquare", inPlace := ["math/bits.Add64", "math/bits.Sub64"], unfollowed := true, recurses := true, apart := false }
def RootSquareSaid : Prop := rootSquareRow.holds Try.pinned (OpenSpec.ofChange rootSquareSpec)

/-- ITS FALSE NEIGHBOUR: 'it returns false'. Refute it at one input. -/
def rootSquareWrong : ChangeSpec := { name := "rootSquare", fn := fun _ => fun
  | [d] => { results := [.lit (.bool false)], args := [d] }
  | _ => none }
def RootSquareWrongFalsely : Prop := rootSquareRow.holds Try.pinned (OpenSpec.ofChange rootSquareWrong)

/-- 'hairsbreadthlaw06.RootFour': WHATEVER THE INPUT: true; the input reads as it did. -/
def rootFourSpec : ChangeSpec := { name := "rootFour", fn := fun _ => fun
  | [d] => { results := [.lit (.bool true)], args := [d] }
  | _ => none }
def rootFourRow : OpenClaim := { program := "ytpeamkplhfddbaa", sum := "ee640107f2514473558151486b96aa0ad1316373b619a0d016f441bd7577a194", func := "hairsbreadth/hairsbreadthlaw06.RootFour", spec := "rootFour", inPlace := ["math/bits.Add64", "math/bits.Sub64"], unfollowed := true, recurses := true, apart := false }
def RootFourSaid : Prop := rootFourRow.holds Try.pinned (OpenSpec.ofChange rootFourSpec)

/-- ITS FALSE NEIGHBOUR: 'it returns false'. Refute it at one input. -/
def rootFourWrong : ChangeSpec := { name := "rootFour", fn := fun _ => fun
  | [d] => { results := [.lit (.bool false)], args := [d] }
  | _ => none }
def RootFourWrongFalsely : Prop := rootFourRow.holds Try.pinned (OpenSpec.ofChange rootFourWrong)

/- THE SECOND FORM. 'bulk': how many values and letters a reading holds, each counted each time it is reached (what is shared counts as often as it is met; a slice's spare places count too). A statement '..UptoSaid' is the law's where the arguments, and the package variables that the reading takes, are together of bulk at most 1048576: NARROWER than '..Said'. Prove '..Said' where nothing that the law and all that it calls make is longer than what came in: it says more and counts as full. Else prove '..UptoSaid'. A law counts once. -/
mutual
def uptoBulk {H : Type} : DataW H → Nat
  | .lit (.string bytes) => bytes.length + 1
  | .lit _ => 1
  | .nil => 1
  | .ptr d => uptoBulk d + 1
  | .slice elems spare => uptoBulkAll elems + uptoBulkAll spare + 1
  | .agg parts => uptoBulkAll parts + 1
  | .iface _ d => uptoBulk d + 1
  | .map entries => uptoBulkEntries entries + 1
  | .held _ => 1
def uptoBulkAll {H : Type} : List (DataW H) → Nat
  | [] => 0
  | d :: r => uptoBulk d + uptoBulkAll r
def uptoBulkEntries {H : Type} : List (Lit × DataW H) → Nat
  | [] => 0
  | x :: r => uptoBulkEntry x + uptoBulkEntries r
def uptoBulkEntry {H : Type} : Lit × DataW H → Nat
  | (.string bytes, d) => bytes.length + uptoBulk d + 1
  | (_, d) => uptoBulk d + 1
 end
def uptoSmall : (H : Type) → List (DataW H) → Bool := fun _ ds => decide (uptoBulkAll ds ≤ 1048576)
def OpenSpec.upto (s : _root_.Go.ChangeSpec) : _root_.Go.OpenSpec := { _root_.Go.OpenSpec.ofChange s with cond := some uptoSmall }

/-- 'hairsbreadthlaw15.RoundCuts', WHERE WHAT IT READS IS OF BULK AT MOST 1048576: true; the input reads as it did. -/
def roundCutsUptoRow : OpenClaim := { program := "ytpeamkplhfddbaa", sum := "ee640107f2514473558151486b96aa0ad1316373b619a0d016f441bd7577a194", func := "hairsbreadth/hairsbreadthlaw15.RoundCuts", spec := "roundCuts", inPlace := ["math/bits.Add64"], unfollowed := true, recurses := true, apart := false, narrowed := true }
def RoundCutsUptoSaid : Prop := roundCutsUptoRow.holds Try.pinned (OpenSpec.upto roundCutsSpec)

/-- 'hairsbreadthlaw15.RoundKnown', WHERE WHAT IT READS IS OF BULK AT MOST 1048576: true; the input reads as it did. -/
def roundKnownUptoRow : OpenClaim := { program := "ytpeamkplhfddbaa", sum := "ee640107f2514473558151486b96aa0ad1316373b619a0d016f441bd7577a194", func := "hairsbreadth/hairsbreadthlaw15.RoundKnown", spec := "roundKnown", inPlace := ["math/bits.Add64"], unfollowed := true, recurses := true, apart := false, narrowed := true }
def RoundKnownUptoSaid : Prop := roundKnownUptoRow.holds Try.pinned (OpenSpec.upto roundKnownSpec)

/-- 'hairsbreadthlaw15.RoundJam', WHERE WHAT IT READS IS OF BULK AT MOST 1048576: true; the input reads as it did. -/
def roundJamUptoRow : OpenClaim := { program := "ytpeamkplhfddbaa", sum := "ee640107f2514473558151486b96aa0ad1316373b619a0d016f441bd7577a194", func := "hairsbreadth/hairsbreadthlaw15.RoundJam", spec := "roundJam", inPlace := ["math/bits.Add64"], unfollowed := true, recurses := true, apart := false, narrowed := true }
def RoundJamUptoSaid : Prop := roundJamUptoRow.holds Try.pinned (OpenSpec.upto roundJamSpec)

/-- 'hairsbreadthlaw15.RoundMirror', WHERE WHAT IT READS IS OF BULK AT MOST 1048576: true; the input reads as it did. -/
def roundMirrorUptoRow : OpenClaim := { program := "ytpeamkplhfddbaa", sum := "ee640107f2514473558151486b96aa0ad1316373b619a0d016f441bd7577a194", func := "hairsbreadth/hairsbreadthlaw15.RoundMirror", spec := "roundMirror", inPlace := ["math/bits.Add64"], unfollowed := true, recurses := true, apart := false, narrowed := true }
def RoundMirrorUptoSaid : Prop := roundMirrorUptoRow.holds Try.pinned (OpenSpec.upto roundMirrorSpec)

/-- 'hairsbreadthlaw15.RoundOrder', WHERE WHAT IT READS IS OF BULK AT MOST 1048576: true; the input reads as it did. -/
def roundOrderUptoRow : OpenClaim := { program := "ytpeamkplhfddbaa", sum := "ee640107f2514473558151486b96aa0ad1316373b619a0d016f441bd7577a194", func := "hairsbreadth/hairsbreadthlaw15.RoundOrder", spec := "roundOrder", inPlace := ["math/bits.Add64"], unfollowed := true, recurses := true, apart := false, narrowed := true }
def RoundOrderUptoSaid : Prop := roundOrderUptoRow.holds Try.pinned (OpenSpec.upto roundOrderSpec)

/-- 'hairsbreadthlaw06.RootAll', WHERE WHAT IT READS IS OF BULK AT MOST 1048576: true; the input reads as it did. -/
def rootAllUptoRow : OpenClaim := { program := "ytpeamkplhfddbaa", sum := "ee640107f2514473558151486b96aa0ad1316373b619a0d016f441bd7577a194", func := "hairsbreadth/hairsbreadthlaw06.RootAll", spec := "rootAll", inPlace := ["math/bits.Add64"], unfollowed := true, recurses := true, apart := false, narrowed := true }
def RootAllUptoSaid : Prop := rootAllUptoRow.holds Try.pinned (OpenSpec.upto rootAllSpec)

/-- 'hairsbreadthlaw06.RootOrder', WHERE WHAT IT READS IS OF BULK AT MOST 1048576: true; the input reads as it did. -/
def rootOrderUptoRow : OpenClaim := { program := "ytpeamkplhfddbaa", sum := "ee640107f2514473558151486b96aa0ad1316373b619a0d016f441bd7577a194", func := "hairsbreadth/hairsbreadthlaw06.RootOrder", spec := "rootOrder", inPlace := ["math/bits.Add64"], unfollowed := true, recurses := true, apart := false, narrowed := true }
def RootOrderUptoSaid : Prop := rootOrderUptoRow.holds Try.pinned (OpenSpec.upto rootOrderSpec)

/-- 'hairsbreadthlaw06.RootKnown', WHERE WHAT IT READS IS OF BULK AT MOST 1048576: true; the input reads as it did. -/
def rootKnownUptoRow : OpenClaim := { program := "ytpeamkplhfddbaa", sum := "ee640107f2514473558151486b96aa0ad1316373b619a0d016f441bd7577a194", func := "hairsbreadth/hairsbreadthlaw06.RootKnown", spec := "rootKnown", inPlace := ["math/bits.Add64"], unfollowed := true, recurses := true, apart := false, narrowed := true }
def RootKnownUptoSaid : Prop := rootKnownUptoRow.holds Try.pinned (OpenSpec.upto rootKnownSpec)

/-- 'hairsbreadthlaw15.RoundNear', WHERE WHAT IT READS IS OF BULK AT MOST 1048576: true; the input reads as it did. -/
def roundNearUptoRow : OpenClaim := { program := "ytpeamkplhfddbaa", sum := "ee640107f2514473558151486b96aa0ad1316373b619a0d016f441bd7577a194", func := "hairsbreadth/hairsbreadthlaw15.RoundNear", spec := "roundNear", inPlace := ["math/bits.Add64", "math/bits.Sub64"], unfollowed := true, recurses := true, apart := false, narrowed := true }
def RoundNearUptoSaid : Prop := roundNearUptoRow.holds Try.pinned (OpenSpec.upto roundNearSpec)

/-- 'hairsbreadthlaw06.RootBetween', WHERE WHAT IT READS IS OF BULK AT MOST 1048576: true; the input reads as it did. -/
def rootBetweenUptoRow : OpenClaim := { program := "ytpeamkplhfddbaa", sum := "ee640107f2514473558151486b96aa0ad1316373b619a0d016f441bd7577a194", func := "hairsbreadth/hairsbreadthlaw06.RootBetween", spec := "rootBetween", inPlace := ["math/bits.Add64"], unfollowed := true, recurses := true, apart := false, narrowed := true }
def RootBetweenUptoSaid : Prop := rootBetweenUptoRow.holds Try.pinned (OpenSpec.upto rootBetweenSpec)

/-- 'hairsbreadthlaw06.RootSquare', WHERE WHAT IT READS IS OF BULK AT MOST 1048576: true; the input reads as it did. -/
def rootSquareUptoRow : OpenClaim := { program := "ytpeamkplhfddbaa", sum := "ee640107f2514473558151486b96aa0ad1316373b619a0d016f441bd7577a194", func := "hairsbreadth/hairsbreadthlaw06.RootSquare", spec := "rootSquare", inPlace := ["math/bits.Add64", "math/bits.Sub64"], unfollowed := true, recurses := true, apart := false, narrowed := true }
def RootSquareUptoSaid : Prop := rootSquareUptoRow.holds Try.pinned (OpenSpec.upto rootSquareSpec)

/-- 'hairsbreadthlaw06.RootFour', WHERE WHAT IT READS IS OF BULK AT MOST 1048576: true; the input reads as it did. -/
def rootFourUptoRow : OpenClaim := { program := "ytpeamkplhfddbaa", sum := "ee640107f2514473558151486b96aa0ad1316373b619a0d016f441bd7577a194", func := "hairsbreadth/hairsbreadthlaw06.RootFour", spec := "rootFour", inPlace := ["math/bits.Add64", "math/bits.Sub64"], unfollowed := true, recurses := true, apart := false, narrowed := true }
def RootFourUptoSaid : Prop := rootFourUptoRow.holds Try.pinned (OpenSpec.upto rootFourSpec)

end Rows
end Go.Proofs.Ytpeamkplhfddbaa
