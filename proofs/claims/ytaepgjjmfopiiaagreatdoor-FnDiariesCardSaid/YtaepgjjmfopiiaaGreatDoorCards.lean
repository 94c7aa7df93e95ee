/-
  DERIVED. GIVEN WITH THE SEED: THE CARDS: each row of YtaepgjjmfopiiaaGreatDoorRows.lean that lists a variable, with what it lists TIED to the program's text (the seventh form; the later family's looks); each row that meets fmt, with fmt's text TOLD by the authors' own Lean function (tested against real Go, not proved from fmt's source: count such statements apart). THE CARD IS WHAT COUNTS. Prove the row's statement (the work); the ties are given (YtaepgjjmfopiiaaGreatDoorTie.lean); close each card by the builder's one call (the guide's Derived/Test/ToyasCard.lean, 'card_holds'). Laid BY PROGRAM, IN A SANDBOX (cutbox-door.mjs). By AI agents, Wed Nov 11 2026. No macro, syntax, notation, axiom, sorry.
-/
import Derived.Test.YtaepgjjmfopiiaaGreatDoorRows
import GoSem.ClaimSeven
namespace Go.Proofs.YtaepgjjmfopiiaaGreatDoor
namespace Rows

/-- THE TIED CARD OF 'laws.FnDiaries'. -/
def fnDiariesCard : Claim7 := { stood := { row := fnDiariesRow, standIns := [], harness := (true, "126daa978306d1d2906f6fcc9cc9ae85c54441e628618319c863f6eb5f99a5b0"), looks := true }, kinds := [], alts := [], laidByText := true, laidKinds := [.data, .data, .data, .data, .sentinel, .sentinel, .pinned], laidTests := true, laidLooks := .later }
def FnDiariesCardSaid : Prop := Claim7.holds Tryz.pinned (.plain (OpenSpec.ofChange fnDiariesSpec)) fnDiariesCard

/-- THE SECOND FORM's CARD OF 'laws.FnDiaries'. -/
def fnDiariesUptoCard : Claim7 := { stood := { row := fnDiariesUptoRow, standIns := [], harness := (true, "126daa978306d1d2906f6fcc9cc9ae85c54441e628618319c863f6eb5f99a5b0"), looks := true }, kinds := [], alts := [], laidByText := true, laidKinds := [.data, .data, .data, .data, .sentinel, .sentinel, .pinned], laidTests := true, laidLooks := .later }
def FnDiariesUptoCardSaid : Prop := Claim7.holds Tryz.pinned (.plain (OpenSpec.upto fnDiariesSpec)) fnDiariesUptoCard
end Rows
end Go.Proofs.YtaepgjjmfopiiaaGreatDoor
