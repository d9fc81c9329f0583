/-
  No cell of these rows narrows 'for every input' (looked for: loops, veiled, ifaces, maps, wideKeys, modest, calm, conditions, laid).
  DERIVED. THE GIVEN ROWS OF THIS SEAT. 12 by the template 'for every input the law returns true; each argument reads behind the call as it read before'; 0 by the template 'total and deterministic' (their statements: YtbifpmpnfcfkkaaTotals.lean).
  GIVEN WITH THE SEED: the statements are not yours to turn. If you find one false, say at which input.
  Laid BY PROGRAM, IN A SANDBOX (cutbox-rows.mjs): the forced cells as the released guide's own fill.sh prints them over the translation f9b4930573285173… (all of the seat's roots in one cut). By AI agents, Wed Nov 11 2026. No macro, syntax, notation, axiom, sorry.
-/
import Derived.Test.YtbifpmpnfcfkkaaChecked
import GoSem.Claim
import GoSem.ClaimJoined
import GoSem.ClaimMapViews
import Derived.JoinedTies
import Derived.KernelRfl
namespace Go.Proofs.Ytbifpmpnfcfkkaa
/- THE CELL 'sum', in the pinned program and in every row, IS THE sha256 OF THE DUMP (.gsa) THAT YtbifpmpnfcfkkaaProg.lean LOADS. Nothing in Lean hashes anything: it is a label: what it is worth is what the hold of that sum in a sandbox is worth. -/
noncomputable def Try.pinned : Pinned := { name := "ytbifpmpnfcfkkaa", sum := "f9b4930573285173b82ccbd4378c603e7c32cde31248e81bb02987c8e42dc18e", checked := Try.checked }
namespace Rows
def none {H : Type} : Left H := { results := [], args := [] }

/-- 'hairsbreadthlaw13.ModeRounds': WHATEVER THE INPUT: true; the input reads as it did. -/
def modeRoundsSpec : ChangeSpec := { name := "modeRounds", fn := fun _ => fun
  | [d1, d2] => { results := [.lit (.bool true)], args := [d1, d2] }
  | _ => none }
def modeRoundsRow : OpenClaim := { program := "ytbifpmpnfcfkkaa", sum := "f9b4930573285173b82ccbd4378c603e7c32cde31248e81bb02987c8e42dc18e", func := "hairsbreadth/hairsbreadthlaw13.ModeRounds", spec := "modeRounds", unfollowed := true, recurses := true, apart := false }
def ModeRoundsSaid : Prop := modeRoundsRow.holds Try.pinned (OpenSpec.ofChange modeRoundsSpec)

/-- ITS FALSE NEIGHBOUR: 'it returns false'. Refute it at one input. -/
def modeRoundsWrong : ChangeSpec := { name := "modeRounds", fn := fun _ => fun
  | [d1, d2] => { results := [.lit (.bool false)], args := [d1, d2] }
  | _ => none }
def ModeRoundsWrongFalsely : Prop := modeRoundsRow.holds Try.pinned (OpenSpec.ofChange modeRoundsWrong)

/-- 'hairsbreadthlaw13.ModeOrder': WHATEVER THE INPUT: true; the input reads as it did. -/
def modeOrderSpec : ChangeSpec := { name := "modeOrder", fn := fun _ => fun
  | [d1, d2, d3, d4] => { results := [.lit (.bool true)], args := [d1, d2, d3, d4] }
  | _ => none }
def modeOrderRow : OpenClaim := { program := "ytbifpmpnfcfkkaa", sum := "f9b4930573285173b82ccbd4378c603e7c32cde31248e81bb02987c8e42dc18e", func := "hairsbreadth/hairsbreadthlaw13.ModeOrder", spec := "modeOrder", unfollowed := true, recurses := true, apart := false }
def ModeOrderSaid : Prop := modeOrderRow.holds Try.pinned (OpenSpec.ofChange modeOrderSpec)

/-- ITS FALSE NEIGHBOUR: 'it returns false'. Refute it at one input. -/
def modeOrderWrong : ChangeSpec := { name := "modeOrder", fn := fun _ => fun
  | [d1, d2, d3, d4] => { results := [.lit (.bool false)], args := [d1, d2, d3, d4] }
  | _ => none }
def ModeOrderWrongFalsely : Prop := modeOrderRow.holds Try.pinned (OpenSpec.ofChange modeOrderWrong)

/-- 'hairsbreadthlaw13.ModeNext': WHATEVER THE INPUT: true; the input reads as it did. -/
def modeNextSpec : ChangeSpec := { name := "modeNext", fn := fun _ => fun
  | [d1, d2, d3, d4] => { results := [.lit (.bool true)], args := [d1, d2, d3, d4] }
  | _ => none }
def modeNextRow : OpenClaim := { program := "ytbifpmpnfcfkkaa", sum := "f9b4930573285173b82ccbd4378c603e7c32cde31248e81bb02987c8e42dc18e", func := "hairsbreadth/hairsbreadthlaw13.ModeNext", spec := "modeNext", unfollowed := true, recurses := true, apart := false }
def ModeNextSaid : Prop := modeNextRow.holds Try.pinned (OpenSpec.ofChange modeNextSpec)

/-- ITS FALSE NEIGHBOUR: 'it returns false'. Refute it at one input. -/
def modeNextWrong : ChangeSpec := { name := "modeNext", fn := fun _ => fun
  | [d1, d2, d3, d4] => { results := [.lit (.bool false)], args := [d1, d2, d3, d4] }
  | _ => none }
def ModeNextWrongFalsely : Prop := modeNextRow.holds Try.pinned (OpenSpec.ofChange modeNextWrong)

/-- 'hairsbreadthlaw03.ShiftTwo': WHATEVER THE INPUT: true; the input reads as it did. -/
def shiftTwoSpec : ChangeSpec := { name := "shiftTwo", fn := fun _ => fun
  | [d1, d2] => { results := [.lit (.bool true)], args := [d1, d2] }
  | _ => none }
def shiftTwoRow : OpenClaim := { program := "ytbifpmpnfcfkkaa", sum := "f9b4930573285173b82ccbd4378c603e7c32cde31248e81bb02987c8e42dc18e", func := "hairsbreadth/hairsbreadthlaw03.ShiftTwo", spec := "shiftTwo", unfollowed := true, recurses := true, apart := false }
def ShiftTwoSaid : Prop := shiftTwoRow.holds Try.pinned (OpenSpec.ofChange shiftTwoSpec)

/-- ITS FALSE NEIGHBOUR: 'it returns false'. Refute it at one input. -/
def shiftTwoWrong : ChangeSpec := { name := "shiftTwo", fn := fun _ => fun
  | [d1, d2] => { results := [.lit (.bool false)], args := [d1, d2] }
  | _ => none }
def ShiftTwoWrongFalsely : Prop := shiftTwoRow.holds Try.pinned (OpenSpec.ofChange shiftTwoWrong)

/-- 'hairsbreadthlaw13.ModeMirror': WHATEVER THE INPUT: true; the input reads as it did. -/
def modeMirrorSpec : ChangeSpec := { name := "modeMirror", fn := fun _ => fun
  | [d1, d2, d3] => { results := [.lit (.bool true)], args := [d1, d2, d3] }
  | _ => none }
def modeMirrorRow : OpenClaim := { program := "ytbifpmpnfcfkkaa", sum := "f9b4930573285173b82ccbd4378c603e7c32cde31248e81bb02987c8e42dc18e", func := "hairsbreadth/hairsbreadthlaw13.ModeMirror", spec := "modeMirror", unfollowed := true, recurses := true, apart := false }
def ModeMirrorSaid : Prop := modeMirrorRow.holds Try.pinned (OpenSpec.ofChange modeMirrorSpec)

/-- ITS FALSE NEIGHBOUR: 'it returns false'. Refute it at one input. -/
def modeMirrorWrong : ChangeSpec := { name := "modeMirror", fn := fun _ => fun
  | [d1, d2, d3] => { results := [.lit (.bool false)], args := [d1, d2, d3] }
  | _ => none }
def ModeMirrorWrongFalsely : Prop := modeMirrorRow.holds Try.pinned (OpenSpec.ofChange modeMirrorWrong)

/-- 'hairsbreadthlaw13.ModeKnown': WHATEVER THE INPUT: true; the input reads as it did. -/
def modeKnownSpec : ChangeSpec := { name := "modeKnown", fn := fun _ => fun
  | [] => { results := [.lit (.bool true)], args := [] }
  | _ => none }
def modeKnownRow : OpenClaim := { program := "ytbifpmpnfcfkkaa", sum := "f9b4930573285173b82ccbd4378c603e7c32cde31248e81bb02987c8e42dc18e", func := "hairsbreadth/hairsbreadthlaw13.ModeKnown", spec := "modeKnown", unfollowed := true, recurses := true, apart := false }
def ModeKnownSaid : Prop := modeKnownRow.holds Try.pinned (OpenSpec.ofChange modeKnownSpec)

/-- ITS FALSE NEIGHBOUR: 'it returns false'. Refute it at one input. -/
def modeKnownWrong : ChangeSpec := { name := "modeKnown", fn := fun _ => fun
  | [] => { results := [.lit (.bool false)], args := [] }
  | _ => none }
def ModeKnownWrongFalsely : Prop := modeKnownRow.holds Try.pinned (OpenSpec.ofChange modeKnownWrong)

/-- 'hairsbreadthlaw03.ShiftFour': WHATEVER THE INPUT: true; the input reads as it did. -/
def shiftFourSpec : ChangeSpec := { name := "shiftFour", fn := fun _ => fun
  | [d1, d2] => { results := [.lit (.bool true)], args := [d1, d2] }
  | _ => none }
def shiftFourRow : OpenClaim := { program := "ytbifpmpnfcfkkaa", sum := "f9b4930573285173b82ccbd4378c603e7c32cde31248e81bb02987c8e42dc18e", func := "hairsbreadth/hairsbreadthlaw03.ShiftFour", spec := "shiftFour", unfollowed := true, recurses := true, apart := false }
def ShiftFourSaid : Prop := shiftFourRow.holds Try.pinned (OpenSpec.ofChange shiftFourSpec)

/-- ITS FALSE NEIGHBOUR: 'it returns false'. Refute it at one input. -/
def shiftFourWrong : ChangeSpec := { name := "shiftFour", fn := fun _ => fun
  | [d1, d2] => { results := [.lit (.bool false)], args := [d1, d2] }
  | _ => none }
def ShiftFourWrongFalsely : Prop := shiftFourRow.holds Try.pinned (OpenSpec.ofChange shiftFourWrong)

/-- 'hairsbreadthlaw03.ShiftTwice': WHATEVER THE INPUT: true; the input reads as it did. -/
def shiftTwiceSpec : ChangeSpec := { name := "shiftTwice", fn := fun _ => fun
  | [d1, d2, d3] => { results := [.lit (.bool true)], args := [d1, d2, d3] }
  | _ => none }
def shiftTwiceRow : OpenClaim := { program := "ytbifpmpnfcfkkaa", sum := "f9b4930573285173b82ccbd4378c603e7c32cde31248e81bb02987c8e42dc18e", func := "hairsbreadth/hairsbreadthlaw03.ShiftTwice", spec := "shiftTwice", unfollowed := true, recurses := true, apart := false }
def ShiftTwiceSaid : Prop := shiftTwiceRow.holds Try.pinned (OpenSpec.ofChange shiftTwiceSpec)

/-- ITS FALSE NEIGHBOUR: 'it returns false'. Refute it at one input. -/
def shiftTwiceWrong : ChangeSpec := { name := "shiftTwice", fn := fun _ => fun
  | [d1, d2, d3] => { results := [.lit (.bool false)], args := [d1, d2, d3] }
  | _ => none }
def ShiftTwiceWrongFalsely : Prop := shiftTwiceRow.holds Try.pinned (OpenSpec.ofChange shiftTwiceWrong)

/-- 'hairsbreadthlaw03.ShiftKnown': WHATEVER THE INPUT: true; the input reads as it did. -/
def shiftKnownSpec : ChangeSpec := { name := "shiftKnown", fn := fun _ => fun
  | [] => { results := [.lit (.bool true)], args := [] }
  | _ => none }
def shiftKnownRow : OpenClaim := { program := "ytbifpmpnfcfkkaa", sum := "f9b4930573285173b82ccbd4378c603e7c32cde31248e81bb02987c8e42dc18e", func := "hairsbreadth/hairsbreadthlaw03.ShiftKnown", spec := "shiftKnown", unfollowed := true, recurses := true, apart := false }
def ShiftKnownSaid : Prop := shiftKnownRow.holds Try.pinned (OpenSpec.ofChange shiftKnownSpec)

/-- ITS FALSE NEIGHBOUR: 'it returns false'. Refute it at one input. -/
def shiftKnownWrong : ChangeSpec := { name := "shiftKnown", fn := fun _ => fun
  | [] => { results := [.lit (.bool false)], args := [] }
  | _ => none }
def ShiftKnownWrongFalsely : Prop := shiftKnownRow.holds Try.pinned (OpenSpec.ofChange shiftKnownWrong)

/-- 'hairsbreadthlaw03.ShiftBack': WHATEVER THE INPUT: true; the input reads as it did. -/
def shiftBackSpec : ChangeSpec := { name := "shiftBack", fn := fun _ => fun
  | [d1, d2] => { results := [.lit (.bool true)], args := [d1, d2] }
  | _ => none }
def shiftBackRow : OpenClaim := { program := "ytbifpmpnfcfkkaa", sum := "f9b4930573285173b82ccbd4378c603e7c32cde31248e81bb02987c8e42dc18e", func := "hairsbreadth/hairsbreadthlaw03.ShiftBack", spec := "shiftBack", unfollowed := true, recurses := true, apart := false }
def ShiftBackSaid : Prop := shiftBackRow.holds Try.pinned (OpenSpec.ofChange shiftBackSpec)

/-- ITS FALSE NEIGHBOUR: 'it returns false'. Refute it at one input. -/
def shiftBackWrong : ChangeSpec := { name := "shiftBack", fn := fun _ => fun
  | [d1, d2] => { results := [.lit (.bool false)], args := [d1, d2] }
  | _ => none }
def ShiftBackWrongFalsely : Prop := shiftBackRow.holds Try.pinned (OpenSpec.ofChange shiftBackWrong)

/-- 'hairsbreadthlaw03.ShiftJams': WHATEVER THE INPUT: true; the input reads as it did. -/
def shiftJamsSpec : ChangeSpec := { name := "shiftJams", fn := fun _ => fun
  | [d1, d2] => { results := [.lit (.bool true)], args := [d1, d2] }
  | _ => none }
def shiftJamsRow : OpenClaim := { program := "ytbifpmpnfcfkkaa", sum := "f9b4930573285173b82ccbd4378c603e7c32cde31248e81bb02987c8e42dc18e", func := "hairsbreadth/hairsbreadthlaw03.ShiftJams", spec := "shiftJams", inPlace := ["math/bits.Sub64"], unfollowed := true, recurses := true, apart := false }
def ShiftJamsSaid : Prop := shiftJamsRow.holds Try.pinned (OpenSpec.ofChange shiftJamsSpec)

/-- ITS FALSE NEIGHBOUR: 'it returns false'. Refute it at one input. -/
def shiftJamsWrong : ChangeSpec := { name := "shiftJams", fn := fun _ => fun
  | [d1, d2] => { results := [.lit (.bool false)], args := [d1, d2] }
  | _ => none }
def ShiftJamsWrongFalsely : Prop := shiftJamsRow.holds Try.pinned (OpenSpec.ofChange shiftJamsWrong)

/-- 'hairsbreadthlaw03.ShiftOrder': WHATEVER THE INPUT: true; the input reads as it did. -/
def shiftOrderSpec : ChangeSpec := { name := "shiftOrder", fn := fun _ => fun
  | [d1, d2, d3] => { results := [.lit (.bool true)], args := [d1, d2, d3] }
  | _ => none }
def shiftOrderRow : OpenClaim := { program := "ytbifpmpnfcfkkaa", sum := "f9b4930573285173b82ccbd4378c603e7c32cde31248e81bb02987c8e42dc18e", func := "hairsbreadth/hairsbreadthlaw03.ShiftOrder", spec := "shiftOrder", unfollowed := true, recurses := true, apart := false }
def ShiftOrderSaid : Prop := shiftOrderRow.holds Try.pinned (OpenSpec.ofChange shiftOrderSpec)

/-- ITS FALSE NEIGHBOUR: 'it returns false'. Refute it at one input. -/
def shiftOrderWrong : ChangeSpec := { name := "shiftOrder", fn := fun _ => fun
  | [d1, d2, d3] => { results := [.lit (.bool false)], args := [d1, d2, d3] }
  | _ => none }
def ShiftOrderWrongFalsely : Prop := shiftOrderRow.holds Try.pinned (OpenSpec.ofChange shiftOrderWrong)

/- THE SECOND FORM. 'bulk': how many values and letters a reading holds, each counted each time it is reached (what is shared counts as often as it is met; a slice's spare places count too). A statement '..UptoSaid' is the law's where the arguments, and the package variables that the reading takes, are together of bulk at most 1048576: NARROWER than '..Said'. Prove '..Said' where nothing that the law and all that it calls make is longer than what came in: it says more and counts as full. Else prove '..UptoSaid'. A law counts once. -/
mutual
def uptoBulk {H : Type} : DataW H → Nat
  | .lit (.string bytes) => bytes.length + 1
  | .lit _ => 1
  | .nil => 1
  | .ptr d => uptoBulk d + 1
  | .slice elems spare => uptoBulkAll elems + uptoBulkAll spare + 1
  | .agg parts => uptoBulkAll parts + 1
  | .iface _ d => uptoBulk d + 1
  | .map entries => uptoBulkEntries entries + 1
  | .held _ => 1
def uptoBulkAll {H : Type} : List (DataW H) → Nat
  | [] => 0
  | d :: r => uptoBulk d + uptoBulkAll r
def uptoBulkEntries {H : Type} : List (Lit × DataW H) → Nat
  | [] => 0
  | x :: r => uptoBulkEntry x + uptoBulkEntries r
def uptoBulkEntry {H : Type} : Lit × DataW H → Nat
  | (.string bytes, d) => bytes.length + uptoBulk d + 1
  | (_, d) => uptoBulk d + 1
 end
def uptoSmall : (H : Type) → List (DataW H) → Bool := fun _ ds => decide (uptoBulkAll ds ≤ 1048576)
def OpenSpec.upto (s : _root_.Go.ChangeSpec) : _root_.Go.OpenSpec := { _root_.Go.OpenSpec.ofChange s with cond := some uptoSmall }

/-- 'hairsbreadthlaw13.ModeRounds', WHERE WHAT IT READS IS OF BULK AT MOST 1048576: true; the input reads as it did. -/
def modeRoundsUptoRow : OpenClaim := { program := "ytbifpmpnfcfkkaa", sum := "f9b4930573285173b82ccbd4378c603e7c32cde31248e81bb02987c8e42dc18e", func := "hairsbreadth/hairsbreadthlaw13.ModeRounds", spec := "modeRounds", unfollowed := true, recurses := true, apart := false, narrowed := true }
def ModeRoundsUptoSaid : Prop := modeRoundsUptoRow.holds Try.pinned (OpenSpec.upto modeRoundsSpec)

/-- 'hairsbreadthlaw13.ModeOrder', WHERE WHAT IT READS IS OF BULK AT MOST 1048576: true; the input reads as it did. -/
def modeOrderUptoRow : OpenClaim := { program := "ytbifpmpnfcfkkaa", sum := "f9b4930573285173b82ccbd4378c603e7c32cde31248e81bb02987c8e42dc18e", func := "hairsbreadth/hairsbreadthlaw13.ModeOrder", spec := "modeOrder", unfollowed := true, recurses := true, apart := false, narrowed := true }
def ModeOrderUptoSaid : Prop := modeOrderUptoRow.holds Try.pinned (OpenSpec.upto modeOrderSpec)

/-- 'hairsbreadthlaw13.ModeNext', WHERE WHAT IT READS IS OF BULK AT MOST 1048576: true; the input reads as it did. -/
def modeNextUptoRow : OpenClaim := { program := "ytbifpmpnfcfkkaa", sum := "f9b4930573285173b82ccbd4378c603e7c32cde31248e81bb02987c8e42dc18e", func := "hairsbreadth/hairsbreadthlaw13.ModeNext", spec := "modeNext", unfollowed := true, recurses := true, apart := false, narrowed := true }
def ModeNextUptoSaid : Prop := modeNextUptoRow.holds Try.pinned (OpenSpec.upto modeNextSpec)

/-- 'hairsbreadthlaw03.ShiftTwo', WHERE WHAT IT READS IS OF BULK AT MOST 1048576: true; the input reads as it did. -/
def shiftTwoUptoRow : OpenClaim := { program := "ytbifpmpnfcfkkaa", sum := "f9b4930573285173b82ccbd4378c603e7c32cde31248e81bb02987c8e42dc18e", func := "hairsbreadth/hairsbreadthlaw03.ShiftTwo", spec := "shiftTwo", unfollowed := true, recurses := true, apart := false, narrowed := true }
def ShiftTwoUptoSaid : Prop := shiftTwoUptoRow.holds Try.pinned (OpenSpec.upto shiftTwoSpec)

/-- 'hairsbreadthlaw13.ModeMirror', WHERE WHAT IT READS IS OF BULK AT MOST 1048576: true; the input reads as it did. -/
def modeMirrorUptoRow : OpenClaim := { program := "ytbifpmpnfcfkkaa", sum := "f9b4930573285173b82ccbd4378c603e7c32cde31248e81bb02987c8e42dc18e", func := "hairsbreadth/hairsbreadthlaw13.ModeMirror", spec := "modeMirror", unfollowed := true, recurses := true, apart := false, narrowed := true }
def ModeMirrorUptoSaid : Prop := modeMirrorUptoRow.holds Try.pinned (OpenSpec.upto modeMirrorSpec)

/-- 'hairsbreadthlaw13.ModeKnown', WHERE WHAT IT READS IS OF BULK AT MOST 1048576: true; the input reads as it did. -/
def modeKnownUptoRow : OpenClaim := { program := "ytbifpmpnfcfkkaa", sum := "f9b4930573285173b82ccbd4378c603e7c32cde31248e81bb02987c8e42dc18e", func := "hairsbreadth/hairsbreadthlaw13.ModeKnown", spec := "modeKnown", unfollowed := true, recurses := true, apart := false, narrowed := true }
def ModeKnownUptoSaid : Prop := modeKnownUptoRow.holds Try.pinned (OpenSpec.upto modeKnownSpec)

/-- 'hairsbreadthlaw03.ShiftFour', WHERE WHAT IT READS IS OF BULK AT MOST 1048576: true; the input reads as it did. -/
def shiftFourUptoRow : OpenClaim := { program := "ytbifpmpnfcfkkaa", sum := "f9b4930573285173b82ccbd4378c603e7c32cde31248e81bb02987c8e42dc18e", func := "hairsbreadth/hairsbreadthlaw03.ShiftFour", spec := "shiftFour", unfollowed := true, recurses := true, apart := false, narrowed := true }
def ShiftFourUptoSaid : Prop := shiftFourUptoRow.holds Try.pinned (OpenSpec.upto shiftFourSpec)

/-- 'hairsbreadthlaw03.ShiftTwice', WHERE WHAT IT READS IS OF BULK AT MOST 1048576: true; the input reads as it did. -/
def shiftTwiceUptoRow : OpenClaim := { program := "ytbifpmpnfcfkkaa", sum := "f9b4930573285173b82ccbd4378c603e7c32cde31248e81bb02987c8e42dc18e", func := "hairsbreadth/hairsbreadthlaw03.ShiftTwice", spec := "shiftTwice", unfollowed := true, recurses := true, apart := false, narrowed := true }
def ShiftTwiceUptoSaid : Prop := shiftTwiceUptoRow.holds Try.pinned (OpenSpec.upto shiftTwiceSpec)

/-- 'hairsbreadthlaw03.ShiftKnown', WHERE WHAT IT READS IS OF BULK AT MOST 1048576: true; the input reads as it did. -/
def shiftKnownUptoRow : OpenClaim := { program := "ytbifpmpnfcfkkaa", sum := "f9b4930573285173b82ccbd4378c603e7c32cde31248e81bb02987c8e42dc18e", func := "hairsbreadth/hairsbreadthlaw03.ShiftKnown", spec := "shiftKnown", unfollowed := true, recurses := true, apart := false, narrowed := true }
def ShiftKnownUptoSaid : Prop := shiftKnownUptoRow.holds Try.pinned (OpenSpec.upto shiftKnownSpec)

/-- 'hairsbreadthlaw03.ShiftBack', WHERE WHAT IT READS IS OF BULK AT MOST 1048576: true; the input reads as it did. -/
def shiftBackUptoRow : OpenClaim := { program := "ytbifpmpnfcfkkaa", sum := "f9b4930573285173b82ccbd4378c603e7c32cde31248e81bb02987c8e42dc18e", func := "hairsbreadth/hairsbreadthlaw03.ShiftBack", spec := "shiftBack", unfollowed := true, recurses := true, apart := false, narrowed := true }
def ShiftBackUptoSaid : Prop := shiftBackUptoRow.holds Try.pinned (OpenSpec.upto shiftBackSpec)

/-- 'hairsbreadthlaw03.ShiftJams', WHERE WHAT IT READS IS OF BULK AT MOST 1048576: true; the input reads as it did. -/
def shiftJamsUptoRow : OpenClaim := { program := "ytbifpmpnfcfkkaa", sum := "f9b4930573285173b82ccbd4378c603e7c32cde31248e81bb02987c8e42dc18e", func := "hairsbreadth/hairsbreadthlaw03.ShiftJams", spec := "shiftJams", inPlace := ["math/bits.Sub64"], unfollowed := true, recurses := true, apart := false, narrowed := true }
def ShiftJamsUptoSaid : Prop := shiftJamsUptoRow.holds Try.pinned (OpenSpec.upto shiftJamsSpec)

/-- 'hairsbreadthlaw03.ShiftOrder', WHERE WHAT IT READS IS OF BULK AT MOST 1048576: true; the input reads as it did. -/
def shiftOrderUptoRow : OpenClaim := { program := "ytbifpmpnfcfkkaa", sum := "f9b4930573285173b82ccbd4378c603e7c32cde31248e81bb02987c8e42dc18e", func := "hairsbreadth/hairsbreadthlaw03.ShiftOrder", spec := "shiftOrder", unfollowed := true, recurses := true, apart := false, narrowed := true }
def ShiftOrderUptoSaid : Prop := shiftOrderUptoRow.holds Try.pinned (OpenSpec.upto shiftOrderSpec)

end Rows
end Go.Proofs.Ytbifpmpnfcfkkaa
