/-
  DERIVED. GIVEN WITH THE SEED: THE CARDS: each row of YtpfoifflfgiaoaaGreatDoorRows.lean that lists a variable, with what it lists TIED to the program's text (the seventh form; the later family's looks); each row that meets fmt, with fmt's text TOLD by the authors' own Lean function (tested against real Go, not proved from fmt's source: count such statements apart). THE CARD IS WHAT COUNTS. Prove the row's statement (the work); the ties are given (YtpfoifflfgiaoaaGreatDoorTie.lean); close each card by the builder's one call (the guide's Derived/Test/ToyasCard.lean, 'card_holds'). Laid BY PROGRAM, IN A SANDBOX (cutbox-door.mjs). By AI agents, Wed Nov 11 2026. No macro, syntax, notation, axiom, sorry.
-/
import Derived.Test.YtpfoifflfgiaoaaGreatDoorRows
import GoSem.ClaimSeven
namespace Go.Proofs.YtpfoifflfgiaoaaGreatDoor
namespace Rows

/-- THE TIED CARD OF 'hairsbreadthtop.TopSticky'. -/
def topStickyCard : Claim7 := { stood := { row := topStickyRow, standIns := [], harness := (true, "897d5fbe582f26283aaf84bbe729f7e987cd505dbc675ed7ce3d9fc2b31cc82f"), looks := true }, kinds := [], alts := [], laidByText := true, laidKinds := [.data, .data, .data, .data, .data, .data, .data, .pinned], laidTests := true, laidLooks := .later }
def TopStickyCardSaid : Prop := Claim7.holds Tryz.pinned (.plain (OpenSpec.ofChange topStickySpec)) topStickyCard

/-- THE SECOND FORM's CARD OF 'hairsbreadthtop.TopSticky'. -/
def topStickyUptoCard : Claim7 := { stood := { row := topStickyUptoRow, standIns := [], harness := (true, "897d5fbe582f26283aaf84bbe729f7e987cd505dbc675ed7ce3d9fc2b31cc82f"), looks := true }, kinds := [], alts := [], laidByText := true, laidKinds := [.data, .data, .data, .data, .data, .data, .data, .pinned], laidTests := true, laidLooks := .later }
def TopStickyUptoCardSaid : Prop := Claim7.holds Tryz.pinned (.plain (OpenSpec.upto topStickySpec)) topStickyUptoCard
end Rows
end Go.Proofs.YtpfoifflfgiaoaaGreatDoor
