/-
  No cell of these rows narrows 'for every input' (looked for: loops, veiled, ifaces, maps, wideKeys, modest, calm, conditions, laid).
  DERIVED. THE GIVEN ROWS OF THIS SEAT. 7 by the template 'for every input the law returns true; each argument reads behind the call as it read before'; 0 by the template 'total and deterministic' (their statements: YtglagdmfplgfaaaTotals.lean).
  GIVEN WITH THE SEED: the statements are not yours to turn. If you find one false, say at which input.
  Laid BY PROGRAM, IN A SANDBOX (cutbox-rows.mjs): the forced cells as the released guide's own fill.sh prints them over the translation af69ba9051b25ebf… (all of the seat's roots in one cut). By AI agents, Wed Nov 11 2026. No macro, syntax, notation, axiom, sorry.
-/
import Derived.Test.YtglagdmfplgfaaaChecked
import GoSem.Claim
import GoSem.ClaimJoined
import GoSem.ClaimMapViews
import Derived.JoinedTies
import Derived.KernelRfl
namespace Go.Proofs.Ytglagdmfplgfaaa
/- THE CELL 'sum', in the pinned program and in every row, IS THE sha256 OF THE DUMP (.gsa) THAT YtglagdmfplgfaaaProg.lean LOADS. Nothing in Lean hashes anything: it is a label: what it is worth is what the hold of that sum in a sandbox is worth. -/
noncomputable def Try.pinned : Pinned := { name := "ytglagdmfplgfaaa", sum := "af69ba9051b25ebf238df62cb5bf658f8e80723677ee8ba30e245807c4bc6659", checked := Try.checked }
namespace Rows
def none {H : Type} : Left H := { results := [], args := [] }

/-- 'hairsbreadthlaw03.ShiftTwo': WHATEVER THE INPUT: true; the input reads as it did. -/
def shiftTwoSpec : ChangeSpec := { name := "shiftTwo", fn := fun _ => fun
  | [d1, d2] => { results := [.lit (.bool true)], args := [d1, d2] }
  | _ => none }
def shiftTwoRow : OpenClaim := { program := "ytglagdmfplgfaaa", sum := "af69ba9051b25ebf238df62cb5bf658f8e80723677ee8ba30e245807c4bc6659", func := "hairsbreadth/hairsbreadthlaw03.ShiftTwo", spec := "shiftTwo", unfollowed := true, recurses := true, apart := false }
def ShiftTwoSaid : Prop := shiftTwoRow.holds Try.pinned (OpenSpec.ofChange shiftTwoSpec)

/-- ITS FALSE NEIGHBOUR: 'it returns false'. Refute it at one input. -/
def shiftTwoWrong : ChangeSpec := { name := "shiftTwo", fn := fun _ => fun
  | [d1, d2] => { results := [.lit (.bool false)], args := [d1, d2] }
  | _ => none }
def ShiftTwoWrongFalsely : Prop := shiftTwoRow.holds Try.pinned (OpenSpec.ofChange shiftTwoWrong)

/-- 'hairsbreadthlaw03.ShiftFour': WHATEVER THE INPUT: true; the input reads as it did. -/
def shiftFourSpec : ChangeSpec := { name := "shiftFour", fn := fun _ => fun
  | [d1, d2] => { results := [.lit (.bool true)], args := [d1, d2] }
  | _ => none }
def shiftFourRow : OpenClaim := { program := "ytglagdmfplgfaaa", sum := "af69ba9051b25ebf238df62cb5bf658f8e80723677ee8ba30e245807c4bc6659", func := "hairsbreadth/hairsbreadthlaw03.ShiftFour", spec := "shiftFour", unfollowed := true, recurses := true, apart := false }
def ShiftFourSaid : Prop := shiftFourRow.holds Try.pinned (OpenSpec.ofChange shiftFourSpec)

/-- ITS FALSE NEIGHBOUR: 'it returns false'. Refute it at one input. -/
def shiftFourWrong : ChangeSpec := { name := "shiftFour", fn := fun _ => fun
  | [d1, d2] => { results := [.lit (.bool false)], args := [d1, d2] }
  | _ => none }
def ShiftFourWrongFalsely : Prop := shiftFourRow.holds Try.pinned (OpenSpec.ofChange shiftFourWrong)

/-- 'hairsbreadthlaw03.ShiftJams': WHATEVER THE INPUT: true; the input reads as it did. -/
def shiftJamsSpec : ChangeSpec := { name := "shiftJams", fn := fun _ => fun
  | [d1, d2] => { results := [.lit (.bool true)], args := [d1, d2] }
  | _ => none }
def shiftJamsRow : OpenClaim := { program := "ytglagdmfplgfaaa", sum := "af69ba9051b25ebf238df62cb5bf658f8e80723677ee8ba30e245807c4bc6659", func := "hairsbreadth/hairsbreadthlaw03.ShiftJams", spec := "shiftJams", inPlace := ["math/bits.Sub64"], unfollowed := true, recurses := true, apart := false }
def ShiftJamsSaid : Prop := shiftJamsRow.holds Try.pinned (OpenSpec.ofChange shiftJamsSpec)

/-- ITS FALSE NEIGHBOUR: 'it returns false'. Refute it at one input. -/
def shiftJamsWrong : ChangeSpec := { name := "shiftJams", fn := fun _ => fun
  | [d1, d2] => { results := [.lit (.bool false)], args := [d1, d2] }
  | _ => none }
def ShiftJamsWrongFalsely : Prop := shiftJamsRow.holds Try.pinned (OpenSpec.ofChange shiftJamsWrong)

/-- 'hairsbreadthlaw15.RoundCuts': WHATEVER THE INPUT: true; the input reads as it did. -/
def roundCutsSpec : ChangeSpec := { name := "roundCuts", fn := fun _ => fun
  | [d1, d2, d3, d4] => { results := [.lit (.bool true)], args := [d1, d2, d3, d4] }
  | _ => none }
def roundCutsRow : OpenClaim := { program := "ytglagdmfplgfaaa", sum := "af69ba9051b25ebf238df62cb5bf658f8e80723677ee8ba30e245807c4bc6659", func := "hairsbreadth/hairsbreadthlaw15.RoundCuts", spec := "roundCuts", inPlace := ["math/bits.Add64"], unfollowed := true, recurses := true, apart := false }
def RoundCutsSaid : Prop := roundCutsRow.holds Try.pinned (OpenSpec.ofChange roundCutsSpec)

/-- ITS FALSE NEIGHBOUR: 'it returns false'. Refute it at one input. -/
def roundCutsWrong : ChangeSpec := { name := "roundCuts", fn := fun _ => fun
  | [d1, d2, d3, d4] => { results := [.lit (.bool false)], args := [d1, d2, d3, d4] }
  | _ => none }
def RoundCutsWrongFalsely : Prop := roundCutsRow.holds Try.pinned (OpenSpec.ofChange roundCutsWrong)

/-- 'hairsbreadthlaw06.RootAll': WHATEVER THE INPUT: true; the input reads as it did. -/
def rootAllSpec : ChangeSpec := { name := "rootAll", fn := fun _ => fun
  | [d] => { results := [.lit (.bool true)], args := [d] }
  | _ => none }
def rootAllRow : OpenClaim := { program := "ytglagdmfplgfaaa", sum := "af69ba9051b25ebf238df62cb5bf658f8e80723677ee8ba30e245807c4bc6659", func := "hairsbreadth/hairsbreadthlaw06.RootAll", spec := "rootAll", inPlace := ["math/bits.Add64"], unfollowed := true, recurses := true, apart := false }
def RootAllSaid : Prop := rootAllRow.holds Try.pinned (OpenSpec.ofChange rootAllSpec)

/-- ITS FALSE NEIGHBOUR: 'it returns false'. Refute it at one input. -/
def rootAllWrong : ChangeSpec := { name := "rootAll", fn := fun _ => fun
  | [d] => { results := [.lit (.bool false)], args := [d] }
  | _ => none }
def RootAllWrongFalsely : Prop := rootAllRow.holds Try.pinned (OpenSpec.ofChange rootAllWrong)

/-- 'hairsbreadthlaw05.QuotDivs': WHATEVER THE INPUT: true; the input reads as it did. -/
def quotDivsSpec : ChangeSpec := { name := "quotDivs", fn := fun _ => fun
  | [d1, d2] => { results := [.lit (.bool true)], args := [d1, d2] }
  | _ => none }
def quotDivsRow : OpenClaim := { program := "ytglagdmfplgfaaa", sum := "af69ba9051b25ebf238df62cb5bf658f8e80723677ee8ba30e245807c4bc6659", func := "hairsbreadth/hairsbreadthlaw05.QuotDivs", spec := "quotDivs", inPlace := ["math/bits.Add64", "math/bits.Sub64"], unfollowed := true, recurses := true, named := ["math/bits.divideError", "math/bits.overflowError"], apart := false }
def QuotDivsSaid : Prop := quotDivsRow.holds Try.pinned (OpenSpec.ofChange quotDivsSpec)

/-- ITS FALSE NEIGHBOUR: 'it returns false'. Refute it at one input. -/
def quotDivsWrong : ChangeSpec := { name := "quotDivs", fn := fun _ => fun
  | [d1, d2] => { results := [.lit (.bool false)], args := [d1, d2] }
  | _ => none }
def QuotDivsWrongFalsely : Prop := quotDivsRow.holds Try.pinned (OpenSpec.ofChange quotDivsWrong)

/-- 'hairsbreadthlaw05.QuotMods': WHATEVER THE INPUT: true; the input reads as it did. -/
def quotModsSpec : ChangeSpec := { name := "quotMods", fn := fun _ => fun
  | [d1, d2, d3] => { results := [.lit (.bool true)], args := [d1, d2, d3] }
  | _ => none }
def quotModsRow : OpenClaim := { program := "ytglagdmfplgfaaa", sum := "af69ba9051b25ebf238df62cb5bf658f8e80723677ee8ba30e245807c4bc6659", func := "hairsbreadth/hairsbreadthlaw05.QuotMods", spec := "quotMods", inPlace := ["math/bits.Add64", "math/bits.Sub64"], unfollowed := true, recurses := true, named := ["math/bits.divideError", "math/bits.overflowError"], apart := false }
def QuotModsSaid : Prop := quotModsRow.holds Try.pinned (OpenSpec.ofChange quotModsSpec)

/-- ITS FALSE NEIGHBOUR: 'it returns false'. Refute it at one input. -/
def quotModsWrong : ChangeSpec := { name := "quotMods", fn := fun _ => fun
  | [d1, d2, d3] => { results := [.lit (.bool false)], args := [d1, d2, d3] }
  | _ => none }
def QuotModsWrongFalsely : Prop := quotModsRow.holds Try.pinned (OpenSpec.ofChange quotModsWrong)

/- THE SECOND FORM. 'bulk': how many values and letters a reading holds, each counted each time it is reached (what is shared counts as often as it is met; a slice's spare places count too). A statement '..UptoSaid' is the law's where the arguments, and the package variables that the reading takes, are together of bulk at most 1048576: NARROWER than '..Said'. Prove '..Said' where nothing that the law and all that it calls make is longer than what came in: it says more and counts as full. Else prove '..UptoSaid'. A law counts once. -/
mutual
def uptoBulk {H : Type} : DataW H → Nat
  | .lit (.string bytes) => bytes.length + 1
  | .lit _ => 1
  | .nil => 1
  | .ptr d => uptoBulk d + 1
  | .slice elems spare => uptoBulkAll elems + uptoBulkAll spare + 1
  | .agg parts => uptoBulkAll parts + 1
  | .iface _ d => uptoBulk d + 1
  | .map entries => uptoBulkEntries entries + 1
  | .held _ => 1
def uptoBulkAll {H : Type} : List (DataW H) → Nat
  | [] => 0
  | d :: r => uptoBulk d + uptoBulkAll r
def uptoBulkEntries {H : Type} : List (Lit × DataW H) → Nat
  | [] => 0
  | x :: r => uptoBulkEntry x + uptoBulkEntries r
def uptoBulkEntry {H : Type} : Lit × DataW H → Nat
  | (.string bytes, d) => bytes.length + uptoBulk d + 1
  | (_, d) => uptoBulk d + 1
 end
def uptoSmall : (H : Type) → List (DataW H) → Bool := fun _ ds => decide (uptoBulkAll ds ≤ 1048576)
def OpenSpec.upto (s : _root_.Go.ChangeSpec) : _root_.Go.OpenSpec := { _root_.Go.OpenSpec.ofChange s with cond := some uptoSmall }

/-- 'hairsbreadthlaw03.ShiftTwo', WHERE WHAT IT READS IS OF BULK AT MOST 1048576: true; the input reads as it did. -/
def shiftTwoUptoRow : OpenClaim := { program := "ytglagdmfplgfaaa", sum := "af69ba9051b25ebf238df62cb5bf658f8e80723677ee8ba30e245807c4bc6659", func := "hairsbreadth/hairsbreadthlaw03.ShiftTwo", spec := "shiftTwo", unfollowed := true, recurses := true, apart := false, narrowed := true }
def ShiftTwoUptoSaid : Prop := shiftTwoUptoRow.holds Try.pinned (OpenSpec.upto shiftTwoSpec)

/-- 'hairsbreadthlaw03.ShiftFour', WHERE WHAT IT READS IS OF BULK AT MOST 1048576: true; the input reads as it did. -/
def shiftFourUptoRow : OpenClaim := { program := "ytglagdmfplgfaaa", sum := "af69ba9051b25ebf238df62cb5bf658f8e80723677ee8ba30e245807c4bc6659", func := "hairsbreadth/hairsbreadthlaw03.ShiftFour", spec := "shiftFour", unfollowed := true, recurses := true, apart := false, narrowed := true }
def ShiftFourUptoSaid : Prop := shiftFourUptoRow.holds Try.pinned (OpenSpec.upto shiftFourSpec)

/-- 'hairsbreadthlaw03.ShiftJams', WHERE WHAT IT READS IS OF BULK AT MOST 1048576: true; the input reads as it did. -/
def shiftJamsUptoRow : OpenClaim := { program := "ytglagdmfplgfaaa", sum := "af69ba9051b25ebf238df62cb5bf658f8e80723677ee8ba30e245807c4bc6659", func := "hairsbreadth/hairsbreadthlaw03.ShiftJams", spec := "shiftJams", inPlace := ["math/bits.Sub64"], unfollowed := true, recurses := true, apart := false, narrowed := true }
def ShiftJamsUptoSaid : Prop := shiftJamsUptoRow.holds Try.pinned (OpenSpec.upto shiftJamsSpec)

/-- 'hairsbreadthlaw15.RoundCuts', WHERE WHAT IT READS IS OF BULK AT MOST 1048576: true; the input reads as it did. -/
def roundCutsUptoRow : OpenClaim := { program := "ytglagdmfplgfaaa", sum := "af69ba9051b25ebf238df62cb5bf658f8e80723677ee8ba30e245807c4bc6659", func := "hairsbreadth/hairsbreadthlaw15.RoundCuts", spec := "roundCuts", inPlace := ["math/bits.Add64"], unfollowed := true, recurses := true, apart := false, narrowed := true }
def RoundCutsUptoSaid : Prop := roundCutsUptoRow.holds Try.pinned (OpenSpec.upto roundCutsSpec)

/-- 'hairsbreadthlaw06.RootAll', WHERE WHAT IT READS IS OF BULK AT MOST 1048576: true; the input reads as it did. -/
def rootAllUptoRow : OpenClaim := { program := "ytglagdmfplgfaaa", sum := "af69ba9051b25ebf238df62cb5bf658f8e80723677ee8ba30e245807c4bc6659", func := "hairsbreadth/hairsbreadthlaw06.RootAll", spec := "rootAll", inPlace := ["math/bits.Add64"], unfollowed := true, recurses := true, apart := false, narrowed := true }
def RootAllUptoSaid : Prop := rootAllUptoRow.holds Try.pinned (OpenSpec.upto rootAllSpec)

/-- 'hairsbreadthlaw05.QuotDivs', WHERE WHAT IT READS IS OF BULK AT MOST 1048576: true; the input reads as it did. -/
def quotDivsUptoRow : OpenClaim := { program := "ytglagdmfplgfaaa", sum := "af69ba9051b25ebf238df62cb5bf658f8e80723677ee8ba30e245807c4bc6659", func := "hairsbreadth/hairsbreadthlaw05.QuotDivs", spec := "quotDivs", inPlace := ["math/bits.Add64", "math/bits.Sub64"], unfollowed := true, recurses := true, named := ["math/bits.divideError", "math/bits.overflowError"], apart := false, narrowed := true }
def QuotDivsUptoSaid : Prop := quotDivsUptoRow.holds Try.pinned (OpenSpec.upto quotDivsSpec)

/-- 'hairsbreadthlaw05.QuotMods', WHERE WHAT IT READS IS OF BULK AT MOST 1048576: true; the input reads as it did. -/
def quotModsUptoRow : OpenClaim := { program := "ytglagdmfplgfaaa", sum := "af69ba9051b25ebf238df62cb5bf658f8e80723677ee8ba30e245807c4bc6659", func := "hairsbreadth/hairsbreadthlaw05.QuotMods", spec := "quotMods", inPlace := ["math/bits.Add64", "math/bits.Sub64"], unfollowed := true, recurses := true, named := ["math/bits.divideError", "math/bits.overflowError"], apart := false, narrowed := true }
def QuotModsUptoSaid : Prop := quotModsUptoRow.holds Try.pinned (OpenSpec.upto quotModsSpec)

end Rows
end Go.Proofs.Ytglagdmfplgfaaa
