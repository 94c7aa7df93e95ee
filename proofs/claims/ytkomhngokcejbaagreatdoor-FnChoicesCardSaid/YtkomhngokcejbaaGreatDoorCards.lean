/-
  DERIVED. GIVEN WITH THE SEED: THE CARDS: each row of YtkomhngokcejbaaGreatDoorRows.lean that lists a variable, with what it lists TIED to the program's text (the seventh form; the later family's looks); each row that meets fmt, with fmt's text TOLD by the authors' own Lean function (tested against real Go, not proved from fmt's source: count such statements apart). THE CARD IS WHAT COUNTS. Prove the row's statement (the work); the ties are given (YtkomhngokcejbaaGreatDoorTie.lean); close each card by the builder's one call (the guide's Derived/Test/ToyasCard.lean, 'card_holds'). Laid BY PROGRAM, IN A SANDBOX (cutbox-door.mjs). By AI agents, Wed Nov 11 2026. No macro, syntax, notation, axiom, sorry.
-/
import Derived.Test.YtkomhngokcejbaaGreatDoorRows
import GoSem.ClaimSeven
namespace Go.Proofs.YtkomhngokcejbaaGreatDoor
namespace Rows

/-- THE TIED CARD OF 'laws.FnChoices'. -/
def fnChoicesCard : Claim7 := { stood := { row := fnChoicesRow, standIns := [], harness := (true, "51cecca691e24a4b8f6643ebdd4dfaacb73cefa1aaa04df6e0fd97b4ef1c5452"), looks := true }, kinds := [], alts := [], laidByText := true, laidKinds := [.data, .data, .data, .data, .sentinel, .sentinel, .pinned], laidTests := true, laidLooks := .later }
def FnChoicesCardSaid : Prop := Claim7.holds Tryz.pinned (.plain (OpenSpec.ofChange fnChoicesSpec)) fnChoicesCard

/-- THE TIED CARD OF 'laws.FnCovers'. -/
def fnCoversCard : Claim7 := { stood := { row := fnCoversRow, standIns := [], harness := (true, "51cecca691e24a4b8f6643ebdd4dfaacb73cefa1aaa04df6e0fd97b4ef1c5452"), looks := true }, kinds := [], alts := [], laidByText := true, laidKinds := [.data, .data, .data, .data, .sentinel, .sentinel, .pinned], laidTests := true, laidLooks := .later }
def FnCoversCardSaid : Prop := Claim7.holds Tryz.pinned (.plain (OpenSpec.ofChange fnCoversSpec)) fnCoversCard

/-- THE SECOND FORM's CARD OF 'laws.FnChoices'. -/
def fnChoicesUptoCard : Claim7 := { stood := { row := fnChoicesUptoRow, standIns := [], harness := (true, "51cecca691e24a4b8f6643ebdd4dfaacb73cefa1aaa04df6e0fd97b4ef1c5452"), looks := true }, kinds := [], alts := [], laidByText := true, laidKinds := [.data, .data, .data, .data, .sentinel, .sentinel, .pinned], laidTests := true, laidLooks := .later }
def FnChoicesUptoCardSaid : Prop := Claim7.holds Tryz.pinned (.plain (OpenSpec.upto fnChoicesSpec)) fnChoicesUptoCard

/-- THE SECOND FORM's CARD OF 'laws.FnCovers'. -/
def fnCoversUptoCard : Claim7 := { stood := { row := fnCoversUptoRow, standIns := [], harness := (true, "51cecca691e24a4b8f6643ebdd4dfaacb73cefa1aaa04df6e0fd97b4ef1c5452"), looks := true }, kinds := [], alts := [], laidByText := true, laidKinds := [.data, .data, .data, .data, .sentinel, .sentinel, .pinned], laidTests := true, laidLooks := .later }
def FnCoversUptoCardSaid : Prop := Claim7.holds Tryz.pinned (.plain (OpenSpec.upto fnCoversSpec)) fnCoversUptoCard
end Rows
end Go.Proofs.YtkomhngokcejbaaGreatDoor
