/-
  DERIVED. GIVEN WITH THE SEED: THE CARDS: each row of YtoacnfofijikmaaGreatDoorRows.lean that lists a variable, with what it lists TIED to the program's text (the seventh form; the later family's looks); each row that meets fmt, with fmt's text TOLD by the authors' own Lean function (tested against real Go, not proved from fmt's source: count such statements apart). THE CARD IS WHAT COUNTS. Prove the row's statement (the work); the ties are given (YtoacnfofijikmaaGreatDoorTie.lean); close each card by the builder's one call (the guide's Derived/Test/ToyasCard.lean, 'card_holds'). Laid BY PROGRAM, IN A SANDBOX (cutbox-door.mjs). By AI agents, Wed Nov 11 2026. No macro, syntax, notation, axiom, sorry.
-/
import Derived.Test.YtoacnfofijikmaaGreatDoorRows
import GoSem.ClaimSeven
namespace Go.Proofs.YtoacnfofijikmaaGreatDoor
namespace Rows

/-- THE TIED CARD OF 'laws.FnFear'. -/
def fnFearCard : Claim7 := { stood := { row := fnFearRow, standIns := [], harness := (true, "b34aae07333f171e67a0f1f863ef5e34ad25b91417f9e0a5b189591f6588c3a9"), looks := true }, kinds := [], alts := [], laidByText := true, laidKinds := [.data, .data, .data, .data, .sentinel, .sentinel, .pinned], laidTests := true, laidLooks := .later }
def FnFearCardSaid : Prop := Claim7.holds Tryz.pinned (.plain (OpenSpec.ofChange fnFearSpec)) fnFearCard

/-- THE SECOND FORM's CARD OF 'laws.FnFear'. -/
def fnFearUptoCard : Claim7 := { stood := { row := fnFearUptoRow, standIns := [], harness := (true, "b34aae07333f171e67a0f1f863ef5e34ad25b91417f9e0a5b189591f6588c3a9"), looks := true }, kinds := [], alts := [], laidByText := true, laidKinds := [.data, .data, .data, .data, .sentinel, .sentinel, .pinned], laidTests := true, laidLooks := .later }
def FnFearUptoCardSaid : Prop := Claim7.holds Tryz.pinned (.plain (OpenSpec.upto fnFearSpec)) fnFearUptoCard
end Rows
end Go.Proofs.YtoacnfofijikmaaGreatDoor
