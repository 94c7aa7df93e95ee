/-
  No cell of these rows narrows 'for every input' (looked for: loops, veiled, ifaces, maps, wideKeys, modest, calm, conditions, laid).
  DERIVED. THE GIVEN ROWS OF THIS SEAT. 5 by the template 'for every input the law returns true; each argument reads behind the call as it read before'; 0 by the template 'total and deterministic' (their statements: YtkodcfnofjkohaaTotals.lean).
  GIVEN WITH THE SEED: the statements are not yours to turn. If you find one false, say at which input.
  Laid BY PROGRAM, IN A SANDBOX (cutbox-rows.mjs): the forced cells as the released guide's own fill.sh prints them over the translation 77821b4969bbd808… (all of the seat's roots in one cut). By AI agents, Wed Nov 11 2026. No macro, syntax, notation, axiom, sorry.
-/
import Derived.Test.YtkodcfnofjkohaaChecked
import GoSem.Claim
import GoSem.ClaimJoined
import GoSem.ClaimMapViews
import Derived.JoinedTies
import Derived.KernelRfl
namespace Go.Proofs.Ytkodcfnofjkohaa
/- THE CELL 'sum', in the pinned program and in every row, IS THE sha256 OF THE DUMP (.gsa) THAT YtkodcfnofjkohaaProg.lean LOADS. Nothing in Lean hashes anything: it is a label: what it is worth is what the hold of that sum in a sandbox is worth. -/
noncomputable def Try.pinned : Pinned := { name := "ytkodcfnofjkohaa", sum := "77821b4969bbd808016f71adae46e89441d59172e5c7ad5ffdfee0b2346dc825", checked := Try.checked }
namespace Rows
def none {H : Type} : Left H := { results := [], args := [] }

/-- 'laws.FnExactHandsFor': WHATEVER THE INPUT: true; the input reads as it did. -/
def fnExactHandsForSpec : ChangeSpec := { name := "fnExactHandsFor", fn := fun _ => fun
  | [d1, d2, d3] => { results := [.lit (.bool true)], args := [d1, d2, d3] }
  | _ => none }
def fnExactHandsForRow : OpenClaim := { program := "ytkodcfnofjkohaa", sum := "77821b4969bbd808016f71adae46e89441d59172e5c7ad5ffdfee0b2346dc825", func := "loop.example/g01338/laws.FnExactHandsFor", spec := "fnExactHandsFor", apart := false }
def FnExactHandsForSaid : Prop := fnExactHandsForRow.holds Try.pinned (OpenSpec.ofChange fnExactHandsForSpec)

/-- ITS FALSE NEIGHBOUR: 'it returns false'. Refute it at one input. -/
def fnExactHandsForWrong : ChangeSpec := { name := "fnExactHandsFor", fn := fun _ => fun
  | [d1, d2, d3] => { results := [.lit (.bool false)], args := [d1, d2, d3] }
  | _ => none }
def FnExactHandsForWrongFalsely : Prop := fnExactHandsForRow.holds Try.pinned (OpenSpec.ofChange fnExactHandsForWrong)

/-- 'laws.FnExactBestPlan': WHATEVER THE INPUT: true; the input reads as it did. -/
def fnExactBestPlanSpec : ChangeSpec := { name := "fnExactBestPlan", fn := fun _ => fun
  | [d1, d2, d3] => { results := [.lit (.bool true)], args := [d1, d2, d3] }
  | _ => none }
def fnExactBestPlanRow : OpenClaim := { program := "ytkodcfnofjkohaa", sum := "77821b4969bbd808016f71adae46e89441d59172e5c7ad5ffdfee0b2346dc825", func := "loop.example/g01338/laws.FnExactBestPlan", spec := "fnExactBestPlan", apart := false }
def FnExactBestPlanSaid : Prop := fnExactBestPlanRow.holds Try.pinned (OpenSpec.ofChange fnExactBestPlanSpec)

/-- ITS FALSE NEIGHBOUR: 'it returns false'. Refute it at one input. -/
def fnExactBestPlanWrong : ChangeSpec := { name := "fnExactBestPlan", fn := fun _ => fun
  | [d1, d2, d3] => { results := [.lit (.bool false)], args := [d1, d2, d3] }
  | _ => none }
def FnExactBestPlanWrongFalsely : Prop := fnExactBestPlanRow.holds Try.pinned (OpenSpec.ofChange fnExactBestPlanWrong)

/-- 'laws.FnExactCheapestNets': WHATEVER THE INPUT: true; the input reads as it did. -/
def fnExactCheapestNetsSpec : ChangeSpec := { name := "fnExactCheapestNets", fn := fun _ => fun
  | [d1, d2, d3, d4] => { results := [.lit (.bool true)], args := [d1, d2, d3, d4] }
  | _ => none }
def fnExactCheapestNetsRow : OpenClaim := { program := "ytkodcfnofjkohaa", sum := "77821b4969bbd808016f71adae46e89441d59172e5c7ad5ffdfee0b2346dc825", func := "loop.example/g01338/laws.FnExactCheapestNets", spec := "fnExactCheapestNets", unfollowed := true, recurses := true, apart := false }
def FnExactCheapestNetsSaid : Prop := fnExactCheapestNetsRow.holds Try.pinned (OpenSpec.ofChange fnExactCheapestNetsSpec)

/-- ITS FALSE NEIGHBOUR: 'it returns false'. Refute it at one input. -/
def fnExactCheapestNetsWrong : ChangeSpec := { name := "fnExactCheapestNets", fn := fun _ => fun
  | [d1, d2, d3, d4] => { results := [.lit (.bool false)], args := [d1, d2, d3, d4] }
  | _ => none }
def FnExactCheapestNetsWrongFalsely : Prop := fnExactCheapestNetsRow.holds Try.pinned (OpenSpec.ofChange fnExactCheapestNetsWrong)

/-- 'laws.FnExactCheckDuties': WHATEVER THE INPUT: true; the input reads as it did. -/
def fnExactCheckDutiesSpec : ChangeSpec := { name := "fnExactCheckDuties", fn := fun _ => fun
  | [d1, d2, d3, d4] => { results := [.lit (.bool true)], args := [d1, d2, d3, d4] }
  | _ => none }
def fnExactCheckDutiesRow : OpenClaim := { program := "ytkodcfnofjkohaa", sum := "77821b4969bbd808016f71adae46e89441d59172e5c7ad5ffdfee0b2346dc825", func := "loop.example/g01338/laws.FnExactCheckDuties", spec := "fnExactCheckDuties", unfollowed := true, recurses := true, apart := false }
def FnExactCheckDutiesSaid : Prop := fnExactCheckDutiesRow.holds Try.pinned (OpenSpec.ofChange fnExactCheckDutiesSpec)

/-- ITS FALSE NEIGHBOUR: 'it returns false'. Refute it at one input. -/
def fnExactCheckDutiesWrong : ChangeSpec := { name := "fnExactCheckDuties", fn := fun _ => fun
  | [d1, d2, d3, d4] => { results := [.lit (.bool false)], args := [d1, d2, d3, d4] }
  | _ => none }
def FnExactCheckDutiesWrongFalsely : Prop := fnExactCheckDutiesRow.holds Try.pinned (OpenSpec.ofChange fnExactCheckDutiesWrong)

/-- 'laws.FnExactDutyBound': WHATEVER THE INPUT: true; the input reads as it did. -/
def fnExactDutyBoundSpec : ChangeSpec := { name := "fnExactDutyBound", fn := fun _ => fun
  | [d1, d2, d3, d4] => { results := [.lit (.bool true)], args := [d1, d2, d3, d4] }
  | _ => none }
def fnExactDutyBoundRow : OpenClaim := { program := "ytkodcfnofjkohaa", sum := "77821b4969bbd808016f71adae46e89441d59172e5c7ad5ffdfee0b2346dc825", func := "loop.example/g01338/laws.FnExactDutyBound", spec := "fnExactDutyBound", unfollowed := true, recurses := true, apart := false }
def FnExactDutyBoundSaid : Prop := fnExactDutyBoundRow.holds Try.pinned (OpenSpec.ofChange fnExactDutyBoundSpec)

/-- ITS FALSE NEIGHBOUR: 'it returns false'. Refute it at one input. -/
def fnExactDutyBoundWrong : ChangeSpec := { name := "fnExactDutyBound", fn := fun _ => fun
  | [d1, d2, d3, d4] => { results := [.lit (.bool false)], args := [d1, d2, d3, d4] }
  | _ => none }
def FnExactDutyBoundWrongFalsely : Prop := fnExactDutyBoundRow.holds Try.pinned (OpenSpec.ofChange fnExactDutyBoundWrong)

/- THE SECOND FORM. 'bulk': how many values and letters a reading holds, each counted each time it is reached (what is shared counts as often as it is met; a slice's spare places count too). A statement '..UptoSaid' is the law's where the arguments, and the package variables that the reading takes, are together of bulk at most 1048576: NARROWER than '..Said'. Prove '..Said' where nothing that the law and all that it calls make is longer than what came in: it says more and counts as full. Else prove '..UptoSaid'. A law counts once. -/
mutual
def uptoBulk {H : Type} : DataW H → Nat
  | .lit (.string bytes) => bytes.length + 1
  | .lit _ => 1
  | .nil => 1
  | .ptr d => uptoBulk d + 1
  | .slice elems spare => uptoBulkAll elems + uptoBulkAll spare + 1
  | .agg parts => uptoBulkAll parts + 1
  | .iface _ d => uptoBulk d + 1
  | .map entries => uptoBulkEntries entries + 1
  | .held _ => 1
def uptoBulkAll {H : Type} : List (DataW H) → Nat
  | [] => 0
  | d :: r => uptoBulk d + uptoBulkAll r
def uptoBulkEntries {H : Type} : List (Lit × DataW H) → Nat
  | [] => 0
  | x :: r => uptoBulkEntry x + uptoBulkEntries r
def uptoBulkEntry {H : Type} : Lit × DataW H → Nat
  | (.string bytes, d) => bytes.length + uptoBulk d + 1
  | (_, d) => uptoBulk d + 1
 end
def uptoSmall : (H : Type) → List (DataW H) → Bool := fun _ ds => decide (uptoBulkAll ds ≤ 1048576)
def OpenSpec.upto (s : _root_.Go.ChangeSpec) : _root_.Go.OpenSpec := { _root_.Go.OpenSpec.ofChange s with cond := some uptoSmall }

/-- 'laws.FnExactHandsFor', WHERE WHAT IT READS IS OF BULK AT MOST 1048576: true; the input reads as it did. -/
def fnExactHandsForUptoRow : OpenClaim := { program := "ytkodcfnofjkohaa", sum := "77821b4969bbd808016f71adae46e89441d59172e5c7ad5ffdfee0b2346dc825", func := "loop.example/g01338/laws.FnExactHandsFor", spec := "fnExactHandsFor", apart := false, narrowed := true }
def FnExactHandsForUptoSaid : Prop := fnExactHandsForUptoRow.holds Try.pinned (OpenSpec.upto fnExactHandsForSpec)

/-- 'laws.FnExactBestPlan', WHERE WHAT IT READS IS OF BULK AT MOST 1048576: true; the input reads as it did. -/
def fnExactBestPlanUptoRow : OpenClaim := { program := "ytkodcfnofjkohaa", sum := "77821b4969bbd808016f71adae46e89441d59172e5c7ad5ffdfee0b2346dc825", func := "loop.example/g01338/laws.FnExactBestPlan", spec := "fnExactBestPlan", apart := false, narrowed := true }
def FnExactBestPlanUptoSaid : Prop := fnExactBestPlanUptoRow.holds Try.pinned (OpenSpec.upto fnExactBestPlanSpec)

/-- 'laws.FnExactCheapestNets', WHERE WHAT IT READS IS OF BULK AT MOST 1048576: true; the input reads as it did. -/
def fnExactCheapestNetsUptoRow : OpenClaim := { program := "ytkodcfnofjkohaa", sum := "77821b4969bbd808016f71adae46e89441d59172e5c7ad5ffdfee0b2346dc825", func := "loop.example/g01338/laws.FnExactCheapestNets", spec := "fnExactCheapestNets", unfollowed := true, recurses := true, apart := false, narrowed := true }
def FnExactCheapestNetsUptoSaid : Prop := fnExactCheapestNetsUptoRow.holds Try.pinned (OpenSpec.upto fnExactCheapestNetsSpec)

/-- 'laws.FnExactCheckDuties', WHERE WHAT IT READS IS OF BULK AT MOST 1048576: true; the input reads as it did. -/
def fnExactCheckDutiesUptoRow : OpenClaim := { program := "ytkodcfnofjkohaa", sum := "77821b4969bbd808016f71adae46e89441d59172e5c7ad5ffdfee0b2346dc825", func := "loop.example/g01338/laws.FnExactCheckDuties", spec := "fnExactCheckDuties", unfollowed := true, recurses := true, apart := false, narrowed := true }
def FnExactCheckDutiesUptoSaid : Prop := fnExactCheckDutiesUptoRow.holds Try.pinned (OpenSpec.upto fnExactCheckDutiesSpec)

/-- 'laws.FnExactDutyBound', WHERE WHAT IT READS IS OF BULK AT MOST 1048576: true; the input reads as it did. -/
def fnExactDutyBoundUptoRow : OpenClaim := { program := "ytkodcfnofjkohaa", sum := "77821b4969bbd808016f71adae46e89441d59172e5c7ad5ffdfee0b2346dc825", func := "loop.example/g01338/laws.FnExactDutyBound", spec := "fnExactDutyBound", unfollowed := true, recurses := true, apart := false, narrowed := true }
def FnExactDutyBoundUptoSaid : Prop := fnExactDutyBoundUptoRow.holds Try.pinned (OpenSpec.upto fnExactDutyBoundSpec)

end Rows
end Go.Proofs.Ytkodcfnofjkohaa
