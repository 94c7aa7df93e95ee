/-
  DERIVED. GIVEN WITH THE SEED: THE CARDS: each row of YtaepgjjmfopiiaaDoorRows.lean that lists a variable, with what it lists TIED to the program's text (the seventh form; the later family's looks); each row that meets fmt, with fmt's text TOLD by the authors' own Lean function (tested against real Go, not proved from fmt's source: count such statements apart). THE CARD IS WHAT COUNTS. Prove the row's statement (the work); the ties are given (YtaepgjjmfopiiaaDoorTie.lean); close each card by the builder's one call (the guide's Derived/Test/ToyasCard.lean, 'card_holds'). Laid BY PROGRAM, IN A SANDBOX (cutbox-door.mjs). By AI agents, Wed Nov 11 2026. No macro, syntax, notation, axiom, sorry.
-/
import Derived.Test.YtaepgjjmfopiiaaDoorRows
import GoSem.ClaimSeven
namespace Go.Proofs.YtaepgjjmfopiiaaDoor
namespace Rows

/-- THE TIED CARD OF 'laws.FnExactReadDiary'. -/
def fnExactReadDiaryCard : Claim7 := { stood := { row := fnExactReadDiaryRow, standIns := [], harness := (true, "5b8bfc9dc0da5bcfb291c6736b19a5cd744ba179237e37064b014aa951e906b6"), looks := true }, kinds := [], alts := [], laidByText := true, laidKinds := [.data, .data, .data, .data, .sentinel, .sentinel, .pinned], laidTests := true, laidLooks := .later }
def FnExactReadDiaryCardSaid : Prop := Claim7.holds Tryd.pinned (.plain (OpenSpec.ofChange fnExactReadDiarySpec)) fnExactReadDiaryCard

/-- THE SECOND FORM's CARD OF 'laws.FnExactReadDiary'. -/
def fnExactReadDiaryUptoCard : Claim7 := { stood := { row := fnExactReadDiaryUptoRow, standIns := [], harness := (true, "5b8bfc9dc0da5bcfb291c6736b19a5cd744ba179237e37064b014aa951e906b6"), looks := true }, kinds := [], alts := [], laidByText := true, laidKinds := [.data, .data, .data, .data, .sentinel, .sentinel, .pinned], laidTests := true, laidLooks := .later }
def FnExactReadDiaryUptoCardSaid : Prop := Claim7.holds Tryd.pinned (.plain (OpenSpec.upto fnExactReadDiarySpec)) fnExactReadDiaryUptoCard
end Rows
end Go.Proofs.YtaepgjjmfopiiaaDoor
