/-
  DERIVED. GIVEN WITH THE SEED: THE CARDS: each row of YtifacledmmpnkaaDoorRows.lean that lists a variable, with what it lists TIED to the program's text (the seventh form; the later family's looks); each row that meets fmt, with fmt's text TOLD by the authors' own Lean function (tested against real Go, not proved from fmt's source: count such statements apart). THE CARD IS WHAT COUNTS. Prove the row's statement (the work); the ties are given (YtifacledmmpnkaaDoorTie.lean); close each card by the builder's one call (the guide's Derived/Test/ToyasCard.lean, 'card_holds'). Laid BY PROGRAM, IN A SANDBOX (cutbox-door.mjs). By AI agents, Wed Nov 11 2026. No macro, syntax, notation, axiom, sorry.
-/
import Derived.Test.YtifacledmmpnkaaDoorRows
import GoSem.ClaimSeven
namespace Go.Proofs.YtifacledmmpnkaaDoor
namespace Rows

/-- THE TIED CARD OF 'laws.FnExactDiaryText'. -/
def fnExactDiaryTextCard : Claim7 := { stood := { row := fnExactDiaryTextRow, standIns := [], harness := (true, "21e5dbe18b58d58eb2e5d0188b20a0b83a9c40c00663096f7cbbfb5a2eea1f05"), looks := true }, kinds := [], alts := [], laidByText := true, laidKinds := [.data, .data, .data], laidTests := true, laidLooks := .later }
def FnExactDiaryTextCardSaid : Prop := Claim7.holds Tryd.pinned (.plain (OpenSpec.ofChange fnExactDiaryTextSpec)) fnExactDiaryTextCard

/-- THE TIED CARD OF 'laws.FnExactScaresText'. -/
def fnExactScaresTextCard : Claim7 := { stood := { row := fnExactScaresTextRow, standIns := [], harness := (true, "21e5dbe18b58d58eb2e5d0188b20a0b83a9c40c00663096f7cbbfb5a2eea1f05"), looks := true }, kinds := [], alts := [], laidByText := true, laidKinds := [.data, .data, .data], laidTests := true, laidLooks := .later }
def FnExactScaresTextCardSaid : Prop := Claim7.holds Tryd.pinned (.plain (OpenSpec.ofChange fnExactScaresTextSpec)) fnExactScaresTextCard

/-- THE TIED CARD OF 'laws.FnExactNetsText'. -/
def fnExactNetsTextCard : Claim7 := { stood := { row := fnExactNetsTextRow, standIns := [], harness := (true, "21e5dbe18b58d58eb2e5d0188b20a0b83a9c40c00663096f7cbbfb5a2eea1f05"), looks := true }, kinds := [], alts := [], laidByText := true, laidKinds := [.data, .data, .data], laidTests := true, laidLooks := .later }
def FnExactNetsTextCardSaid : Prop := Claim7.holds Tryd.pinned (.plain (OpenSpec.ofChange fnExactNetsTextSpec)) fnExactNetsTextCard

/-- THE TIED CARD OF 'laws.FnExactFlocksText'. -/
def fnExactFlocksTextCard : Claim7 := { stood := { row := fnExactFlocksTextRow, standIns := [], harness := (true, "21e5dbe18b58d58eb2e5d0188b20a0b83a9c40c00663096f7cbbfb5a2eea1f05"), looks := true }, kinds := [], alts := [], laidByText := true, laidKinds := [.data, .data, .data], laidTests := true, laidLooks := .later }
def FnExactFlocksTextCardSaid : Prop := Claim7.holds Tryd.pinned (.plain (OpenSpec.ofChange fnExactFlocksTextSpec)) fnExactFlocksTextCard

/-- THE TIED CARD OF 'laws.FnExactReadDiary'. -/
def fnExactReadDiaryCard : Claim7 := { stood := { row := fnExactReadDiaryRow, standIns := [], harness := (true, "21e5dbe18b58d58eb2e5d0188b20a0b83a9c40c00663096f7cbbfb5a2eea1f05"), looks := true }, kinds := [], alts := [], laidByText := true, laidKinds := [.data, .data, .data, .data, .sentinel, .sentinel, .pinned], laidTests := true, laidLooks := .later }
def FnExactReadDiaryCardSaid : Prop := Claim7.holds Tryd.pinned (.plain (OpenSpec.ofChange fnExactReadDiarySpec)) fnExactReadDiaryCard

/-- THE SECOND FORM's CARD OF 'laws.FnExactDiaryText'. -/
def fnExactDiaryTextUptoCard : Claim7 := { stood := { row := fnExactDiaryTextUptoRow, standIns := [], harness := (true, "21e5dbe18b58d58eb2e5d0188b20a0b83a9c40c00663096f7cbbfb5a2eea1f05"), looks := true }, kinds := [], alts := [], laidByText := true, laidKinds := [.data, .data, .data], laidTests := true, laidLooks := .later }
def FnExactDiaryTextUptoCardSaid : Prop := Claim7.holds Tryd.pinned (.plain (OpenSpec.upto fnExactDiaryTextSpec)) fnExactDiaryTextUptoCard

/-- THE SECOND FORM's CARD OF 'laws.FnExactScaresText'. -/
def fnExactScaresTextUptoCard : Claim7 := { stood := { row := fnExactScaresTextUptoRow, standIns := [], harness := (true, "21e5dbe18b58d58eb2e5d0188b20a0b83a9c40c00663096f7cbbfb5a2eea1f05"), looks := true }, kinds := [], alts := [], laidByText := true, laidKinds := [.data, .data, .data], laidTests := true, laidLooks := .later }
def FnExactScaresTextUptoCardSaid : Prop := Claim7.holds Tryd.pinned (.plain (OpenSpec.upto fnExactScaresTextSpec)) fnExactScaresTextUptoCard

/-- THE SECOND FORM's CARD OF 'laws.FnExactNetsText'. -/
def fnExactNetsTextUptoCard : Claim7 := { stood := { row := fnExactNetsTextUptoRow, standIns := [], harness := (true, "21e5dbe18b58d58eb2e5d0188b20a0b83a9c40c00663096f7cbbfb5a2eea1f05"), looks := true }, kinds := [], alts := [], laidByText := true, laidKinds := [.data, .data, .data], laidTests := true, laidLooks := .later }
def FnExactNetsTextUptoCardSaid : Prop := Claim7.holds Tryd.pinned (.plain (OpenSpec.upto fnExactNetsTextSpec)) fnExactNetsTextUptoCard

/-- THE SECOND FORM's CARD OF 'laws.FnExactFlocksText'. -/
def fnExactFlocksTextUptoCard : Claim7 := { stood := { row := fnExactFlocksTextUptoRow, standIns := [], harness := (true, "21e5dbe18b58d58eb2e5d0188b20a0b83a9c40c00663096f7cbbfb5a2eea1f05"), looks := true }, kinds := [], alts := [], laidByText := true, laidKinds := [.data, .data, .data], laidTests := true, laidLooks := .later }
def FnExactFlocksTextUptoCardSaid : Prop := Claim7.holds Tryd.pinned (.plain (OpenSpec.upto fnExactFlocksTextSpec)) fnExactFlocksTextUptoCard

/-- THE SECOND FORM's CARD OF 'laws.FnExactReadDiary'. -/
def fnExactReadDiaryUptoCard : Claim7 := { stood := { row := fnExactReadDiaryUptoRow, standIns := [], harness := (true, "21e5dbe18b58d58eb2e5d0188b20a0b83a9c40c00663096f7cbbfb5a2eea1f05"), looks := true }, kinds := [], alts := [], laidByText := true, laidKinds := [.data, .data, .data, .data, .sentinel, .sentinel, .pinned], laidTests := true, laidLooks := .later }
def FnExactReadDiaryUptoCardSaid : Prop := Claim7.holds Tryd.pinned (.plain (OpenSpec.upto fnExactReadDiarySpec)) fnExactReadDiaryUptoCard
end Rows
end Go.Proofs.YtifacledmmpnkaaDoor
