/-
  No cell of these rows narrows 'for every input' (looked for: loops, veiled, ifaces, maps, wideKeys, modest, calm, conditions, laid).
  DERIVED. THE GIVEN ROWS OF THIS SEAT. 12 by the template 'for every input the law returns true; each argument reads behind the call as it read before'; 0 by the template 'total and deterministic' (their statements: YtnddoiapilookaaTotals.lean).
  GIVEN WITH THE SEED: the statements are not yours to turn. If you find one false, say at which input.
  Laid BY PROGRAM, IN A SANDBOX (cutbox-rows.mjs): the forced cells as the released guide's own fill.sh prints them over the translation adeb9289cf01bcc7… (all of the seat's roots in one cut). By AI agents, Wed Nov 11 2026. No macro, syntax, notation, axiom, sorry.
-/
import Derived.Test.YtnddoiapilookaaChecked
import GoSem.Claim
import GoSem.ClaimJoined
import GoSem.ClaimMapViews
import Derived.JoinedTies
import Derived.KernelRfl
namespace Go.Proofs.Ytnddoiapilookaa
/- THE CELL 'sum', in the pinned program and in every row, IS THE sha256 OF THE DUMP (.gsa) THAT YtnddoiapilookaaProg.lean LOADS. Nothing in Lean hashes anything: it is a label: what it is worth is what the hold of that sum in a sandbox is worth. -/
noncomputable def Try.pinned : Pinned := { name := "ytnddoiapilookaa", sum := "adeb9289cf01bcc737b555df51f4bcec9b4119c820a6d6a83ef1bc3d21997b27", checked := Try.checked }
namespace Rows
def none {H : Type} : Left H := { results := [], args := [] }

/-- 'laws.FnExactAllNets': WHATEVER THE INPUT: true; the input reads as it did. -/
def fnExactAllNetsSpec : ChangeSpec := { name := "fnExactAllNets", fn := fun _ => fun
  | [d1, d2] => { results := [.lit (.bool true)], args := [d1, d2] }
  | _ => none }
def fnExactAllNetsRow : OpenClaim := { program := "ytnddoiapilookaa", sum := "adeb9289cf01bcc737b555df51f4bcec9b4119c820a6d6a83ef1bc3d21997b27", func := "loop.example/g01338/laws.FnExactAllNets", spec := "fnExactAllNets", unfollowed := true, recurses := true, apart := false }
def FnExactAllNetsSaid : Prop := fnExactAllNetsRow.holds Try.pinned (OpenSpec.ofChange fnExactAllNetsSpec)

/-- ITS FALSE NEIGHBOUR: 'it returns false'. Refute it at one input. -/
def fnExactAllNetsWrong : ChangeSpec := { name := "fnExactAllNets", fn := fun _ => fun
  | [d1, d2] => { results := [.lit (.bool false)], args := [d1, d2] }
  | _ => none }
def FnExactAllNetsWrongFalsely : Prop := fnExactAllNetsRow.holds Try.pinned (OpenSpec.ofChange fnExactAllNetsWrong)

/-- 'laws.FnExactCostOfNet': WHATEVER THE INPUT: true; the input reads as it did. -/
def fnExactCostOfNetSpec : ChangeSpec := { name := "fnExactCostOfNet", fn := fun _ => fun
  | [d1, d2, d3] => { results := [.lit (.bool true)], args := [d1, d2, d3] }
  | _ => none }
def fnExactCostOfNetRow : OpenClaim := { program := "ytnddoiapilookaa", sum := "adeb9289cf01bcc737b555df51f4bcec9b4119c820a6d6a83ef1bc3d21997b27", func := "loop.example/g01338/laws.FnExactCostOfNet", spec := "fnExactCostOfNet", unfollowed := true, recurses := true, apart := false }
def FnExactCostOfNetSaid : Prop := fnExactCostOfNetRow.holds Try.pinned (OpenSpec.ofChange fnExactCostOfNetSpec)

/-- ITS FALSE NEIGHBOUR: 'it returns false'. Refute it at one input. -/
def fnExactCostOfNetWrong : ChangeSpec := { name := "fnExactCostOfNet", fn := fun _ => fun
  | [d1, d2, d3] => { results := [.lit (.bool false)], args := [d1, d2, d3] }
  | _ => none }
def FnExactCostOfNetWrongFalsely : Prop := fnExactCostOfNetRow.holds Try.pinned (OpenSpec.ofChange fnExactCostOfNetWrong)

/-- 'laws.FnExactCoveredBy': WHATEVER THE INPUT: true; the input reads as it did. -/
def fnExactCoveredBySpec : ChangeSpec := { name := "fnExactCoveredBy", fn := fun _ => fun
  | [d1, d2] => { results := [.lit (.bool true)], args := [d1, d2] }
  | _ => none }
def fnExactCoveredByRow : OpenClaim := { program := "ytnddoiapilookaa", sum := "adeb9289cf01bcc737b555df51f4bcec9b4119c820a6d6a83ef1bc3d21997b27", func := "loop.example/g01338/laws.FnExactCoveredBy", spec := "fnExactCoveredBy", unfollowed := true, recurses := true, apart := false }
def FnExactCoveredBySaid : Prop := fnExactCoveredByRow.holds Try.pinned (OpenSpec.ofChange fnExactCoveredBySpec)

/-- ITS FALSE NEIGHBOUR: 'it returns false'. Refute it at one input. -/
def fnExactCoveredByWrong : ChangeSpec := { name := "fnExactCoveredBy", fn := fun _ => fun
  | [d1, d2] => { results := [.lit (.bool false)], args := [d1, d2] }
  | _ => none }
def FnExactCoveredByWrongFalsely : Prop := fnExactCoveredByRow.holds Try.pinned (OpenSpec.ofChange fnExactCoveredByWrong)

/-- 'laws.FnExactTwiceCovered': WHATEVER THE INPUT: true; the input reads as it did. -/
def fnExactTwiceCoveredSpec : ChangeSpec := { name := "fnExactTwiceCovered", fn := fun _ => fun
  | [d1, d2] => { results := [.lit (.bool true)], args := [d1, d2] }
  | _ => none }
def fnExactTwiceCoveredRow : OpenClaim := { program := "ytnddoiapilookaa", sum := "adeb9289cf01bcc737b555df51f4bcec9b4119c820a6d6a83ef1bc3d21997b27", func := "loop.example/g01338/laws.FnExactTwiceCovered", spec := "fnExactTwiceCovered", unfollowed := true, recurses := true, apart := false }
def FnExactTwiceCoveredSaid : Prop := fnExactTwiceCoveredRow.holds Try.pinned (OpenSpec.ofChange fnExactTwiceCoveredSpec)

/-- ITS FALSE NEIGHBOUR: 'it returns false'. Refute it at one input. -/
def fnExactTwiceCoveredWrong : ChangeSpec := { name := "fnExactTwiceCovered", fn := fun _ => fun
  | [d1, d2] => { results := [.lit (.bool false)], args := [d1, d2] }
  | _ => none }
def FnExactTwiceCoveredWrongFalsely : Prop := fnExactTwiceCoveredRow.holds Try.pinned (OpenSpec.ofChange fnExactTwiceCoveredWrong)

/-- 'laws.FnExactWithHoles': WHATEVER THE INPUT: true; the input reads as it did. -/
def fnExactWithHolesSpec : ChangeSpec := { name := "fnExactWithHoles", fn := fun _ => fun
  | [d1, d2, d3] => { results := [.lit (.bool true)], args := [d1, d2, d3] }
  | _ => none }
def fnExactWithHolesRow : OpenClaim := { program := "ytnddoiapilookaa", sum := "adeb9289cf01bcc737b555df51f4bcec9b4119c820a6d6a83ef1bc3d21997b27", func := "loop.example/g01338/laws.FnExactWithHoles", spec := "fnExactWithHoles", unfollowed := true, recurses := true, apart := false }
def FnExactWithHolesSaid : Prop := fnExactWithHolesRow.holds Try.pinned (OpenSpec.ofChange fnExactWithHolesSpec)

/-- ITS FALSE NEIGHBOUR: 'it returns false'. Refute it at one input. -/
def fnExactWithHolesWrong : ChangeSpec := { name := "fnExactWithHoles", fn := fun _ => fun
  | [d1, d2, d3] => { results := [.lit (.bool false)], args := [d1, d2, d3] }
  | _ => none }
def FnExactWithHolesWrongFalsely : Prop := fnExactWithHolesRow.holds Try.pinned (OpenSpec.ofChange fnExactWithHolesWrong)

/-- 'laws.FnExactCostOfNets': WHATEVER THE INPUT: true; the input reads as it did. -/
def fnExactCostOfNetsSpec : ChangeSpec := { name := "fnExactCostOfNets", fn := fun _ => fun
  | [d1, d2, d3] => { results := [.lit (.bool true)], args := [d1, d2, d3] }
  | _ => none }
def fnExactCostOfNetsRow : OpenClaim := { program := "ytnddoiapilookaa", sum := "adeb9289cf01bcc737b555df51f4bcec9b4119c820a6d6a83ef1bc3d21997b27", func := "loop.example/g01338/laws.FnExactCostOfNets", spec := "fnExactCostOfNets", unfollowed := true, recurses := true, apart := false }
def FnExactCostOfNetsSaid : Prop := fnExactCostOfNetsRow.holds Try.pinned (OpenSpec.ofChange fnExactCostOfNetsSpec)

/-- ITS FALSE NEIGHBOUR: 'it returns false'. Refute it at one input. -/
def fnExactCostOfNetsWrong : ChangeSpec := { name := "fnExactCostOfNets", fn := fun _ => fun
  | [d1, d2, d3] => { results := [.lit (.bool false)], args := [d1, d2, d3] }
  | _ => none }
def FnExactCostOfNetsWrongFalsely : Prop := fnExactCostOfNetsRow.holds Try.pinned (OpenSpec.ofChange fnExactCostOfNetsWrong)

/-- 'laws.FnExactHolesToMend': WHATEVER THE INPUT: true; the input reads as it did. -/
def fnExactHolesToMendSpec : ChangeSpec := { name := "fnExactHolesToMend", fn := fun _ => fun
  | [d1, d2, d3, d4] => { results := [.lit (.bool true)], args := [d1, d2, d3, d4] }
  | _ => none }
def fnExactHolesToMendRow : OpenClaim := { program := "ytnddoiapilookaa", sum := "adeb9289cf01bcc737b555df51f4bcec9b4119c820a6d6a83ef1bc3d21997b27", func := "loop.example/g01338/laws.FnExactHolesToMend", spec := "fnExactHolesToMend", unfollowed := true, recurses := true, apart := false }
def FnExactHolesToMendSaid : Prop := fnExactHolesToMendRow.holds Try.pinned (OpenSpec.ofChange fnExactHolesToMendSpec)

/-- ITS FALSE NEIGHBOUR: 'it returns false'. Refute it at one input. -/
def fnExactHolesToMendWrong : ChangeSpec := { name := "fnExactHolesToMend", fn := fun _ => fun
  | [d1, d2, d3, d4] => { results := [.lit (.bool false)], args := [d1, d2, d3, d4] }
  | _ => none }
def FnExactHolesToMendWrongFalsely : Prop := fnExactHolesToMendRow.holds Try.pinned (OpenSpec.ofChange fnExactHolesToMendWrong)

/-- 'laws.FnExactCheckNets': WHATEVER THE INPUT: true; the input reads as it did. -/
def fnExactCheckNetsSpec : ChangeSpec := { name := "fnExactCheckNets", fn := fun _ => fun
  | [d1, d2, d3] => { results := [.lit (.bool true)], args := [d1, d2, d3] }
  | _ => none }
def fnExactCheckNetsRow : OpenClaim := { program := "ytnddoiapilookaa", sum := "adeb9289cf01bcc737b555df51f4bcec9b4119c820a6d6a83ef1bc3d21997b27", func := "loop.example/g01338/laws.FnExactCheckNets", spec := "fnExactCheckNets", unfollowed := true, recurses := true, apart := false }
def FnExactCheckNetsSaid : Prop := fnExactCheckNetsRow.holds Try.pinned (OpenSpec.ofChange fnExactCheckNetsSpec)

/-- ITS FALSE NEIGHBOUR: 'it returns false'. Refute it at one input. -/
def fnExactCheckNetsWrong : ChangeSpec := { name := "fnExactCheckNets", fn := fun _ => fun
  | [d1, d2, d3] => { results := [.lit (.bool false)], args := [d1, d2, d3] }
  | _ => none }
def FnExactCheckNetsWrongFalsely : Prop := fnExactCheckNetsRow.holds Try.pinned (OpenSpec.ofChange fnExactCheckNetsWrong)

/-- 'laws.FnExactFirstBare': WHATEVER THE INPUT: true; the input reads as it did. -/
def fnExactFirstBareSpec : ChangeSpec := { name := "fnExactFirstBare", fn := fun _ => fun
  | [d1, d2, d3] => { results := [.lit (.bool true)], args := [d1, d2, d3] }
  | _ => none }
def fnExactFirstBareRow : OpenClaim := { program := "ytnddoiapilookaa", sum := "adeb9289cf01bcc737b555df51f4bcec9b4119c820a6d6a83ef1bc3d21997b27", func := "loop.example/g01338/laws.FnExactFirstBare", spec := "fnExactFirstBare", unfollowed := true, recurses := true, apart := false }
def FnExactFirstBareSaid : Prop := fnExactFirstBareRow.holds Try.pinned (OpenSpec.ofChange fnExactFirstBareSpec)

/-- ITS FALSE NEIGHBOUR: 'it returns false'. Refute it at one input. -/
def fnExactFirstBareWrong : ChangeSpec := { name := "fnExactFirstBare", fn := fun _ => fun
  | [d1, d2, d3] => { results := [.lit (.bool false)], args := [d1, d2, d3] }
  | _ => none }
def FnExactFirstBareWrongFalsely : Prop := fnExactFirstBareRow.holds Try.pinned (OpenSpec.ofChange fnExactFirstBareWrong)

/-- 'laws.FnExactTrimNets': WHATEVER THE INPUT: true; the input reads as it did. -/
def fnExactTrimNetsSpec : ChangeSpec := { name := "fnExactTrimNets", fn := fun _ => fun
  | [d1, d2, d3] => { results := [.lit (.bool true)], args := [d1, d2, d3] }
  | _ => none }
def fnExactTrimNetsRow : OpenClaim := { program := "ytnddoiapilookaa", sum := "adeb9289cf01bcc737b555df51f4bcec9b4119c820a6d6a83ef1bc3d21997b27", func := "loop.example/g01338/laws.FnExactTrimNets", spec := "fnExactTrimNets", unfollowed := true, recurses := true, apart := false }
def FnExactTrimNetsSaid : Prop := fnExactTrimNetsRow.holds Try.pinned (OpenSpec.ofChange fnExactTrimNetsSpec)

/-- ITS FALSE NEIGHBOUR: 'it returns false'. Refute it at one input. -/
def fnExactTrimNetsWrong : ChangeSpec := { name := "fnExactTrimNets", fn := fun _ => fun
  | [d1, d2, d3] => { results := [.lit (.bool false)], args := [d1, d2, d3] }
  | _ => none }
def FnExactTrimNetsWrongFalsely : Prop := fnExactTrimNetsRow.holds Try.pinned (OpenSpec.ofChange fnExactTrimNetsWrong)

/-- 'laws.FnExactGreedyNets': WHATEVER THE INPUT: true; the input reads as it did. -/
def fnExactGreedyNetsSpec : ChangeSpec := { name := "fnExactGreedyNets", fn := fun _ => fun
  | [d1, d2, d3] => { results := [.lit (.bool true)], args := [d1, d2, d3] }
  | _ => none }
def fnExactGreedyNetsRow : OpenClaim := { program := "ytnddoiapilookaa", sum := "adeb9289cf01bcc737b555df51f4bcec9b4119c820a6d6a83ef1bc3d21997b27", func := "loop.example/g01338/laws.FnExactGreedyNets", spec := "fnExactGreedyNets", unfollowed := true, recurses := true, apart := false }
def FnExactGreedyNetsSaid : Prop := fnExactGreedyNetsRow.holds Try.pinned (OpenSpec.ofChange fnExactGreedyNetsSpec)

/-- ITS FALSE NEIGHBOUR: 'it returns false'. Refute it at one input. -/
def fnExactGreedyNetsWrong : ChangeSpec := { name := "fnExactGreedyNets", fn := fun _ => fun
  | [d1, d2, d3] => { results := [.lit (.bool false)], args := [d1, d2, d3] }
  | _ => none }
def FnExactGreedyNetsWrongFalsely : Prop := fnExactGreedyNetsRow.holds Try.pinned (OpenSpec.ofChange fnExactGreedyNetsWrong)

/-- 'laws.FnExactDutiesFor': WHATEVER THE INPUT: true; the input reads as it did. -/
def fnExactDutiesForSpec : ChangeSpec := { name := "fnExactDutiesFor", fn := fun _ => fun
  | [d1, d2, d3] => { results := [.lit (.bool true)], args := [d1, d2, d3] }
  | _ => none }
def fnExactDutiesForRow : OpenClaim := { program := "ytnddoiapilookaa", sum := "adeb9289cf01bcc737b555df51f4bcec9b4119c820a6d6a83ef1bc3d21997b27", func := "loop.example/g01338/laws.FnExactDutiesFor", spec := "fnExactDutiesFor", unfollowed := true, recurses := true, apart := false }
def FnExactDutiesForSaid : Prop := fnExactDutiesForRow.holds Try.pinned (OpenSpec.ofChange fnExactDutiesForSpec)

/-- ITS FALSE NEIGHBOUR: 'it returns false'. Refute it at one input. -/
def fnExactDutiesForWrong : ChangeSpec := { name := "fnExactDutiesFor", fn := fun _ => fun
  | [d1, d2, d3] => { results := [.lit (.bool false)], args := [d1, d2, d3] }
  | _ => none }
def FnExactDutiesForWrongFalsely : Prop := fnExactDutiesForRow.holds Try.pinned (OpenSpec.ofChange fnExactDutiesForWrong)

/- THE SECOND FORM. 'bulk': how many values and letters a reading holds, each counted each time it is reached (what is shared counts as often as it is met; a slice's spare places count too). A statement '..UptoSaid' is the law's where the arguments, and the package variables that the reading takes, are together of bulk at most 1048576: NARROWER than '..Said'. Prove '..Said' where nothing that the law and all that it calls make is longer than what came in: it says more and counts as full. Else prove '..UptoSaid'. A law counts once. -/
mutual
def uptoBulk {H : Type} : DataW H → Nat
  | .lit (.string bytes) => bytes.length + 1
  | .lit _ => 1
  | .nil => 1
  | .ptr d => uptoBulk d + 1
  | .slice elems spare => uptoBulkAll elems + uptoBulkAll spare + 1
  | .agg parts => uptoBulkAll parts + 1
  | .iface _ d => uptoBulk d + 1
  | .map entries => uptoBulkEntries entries + 1
  | .held _ => 1
def uptoBulkAll {H : Type} : List (DataW H) → Nat
  | [] => 0
  | d :: r => uptoBulk d + uptoBulkAll r
def uptoBulkEntries {H : Type} : List (Lit × DataW H) → Nat
  | [] => 0
  | x :: r => uptoBulkEntry x + uptoBulkEntries r
def uptoBulkEntry {H : Type} : Lit × DataW H → Nat
  | (.string bytes, d) => bytes.length + uptoBulk d + 1
  | (_, d) => uptoBulk d + 1
 end
def uptoSmall : (H : Type) → List (DataW H) → Bool := fun _ ds => decide (uptoBulkAll ds ≤ 1048576)
def OpenSpec.upto (s : _root_.Go.ChangeSpec) : _root_.Go.OpenSpec := { _root_.Go.OpenSpec.ofChange s with cond := some uptoSmall }

/-- 'laws.FnExactAllNets', WHERE WHAT IT READS IS OF BULK AT MOST 1048576: true; the input reads as it did. -/
def fnExactAllNetsUptoRow : OpenClaim := { program := "ytnddoiapilookaa", sum := "adeb9289cf01bcc737b555df51f4bcec9b4119c820a6d6a83ef1bc3d21997b27", func := "loop.example/g01338/laws.FnExactAllNets", spec := "fnExactAllNets", unfollowed := true, recurses := true, apart := false, narrowed := true }
def FnExactAllNetsUptoSaid : Prop := fnExactAllNetsUptoRow.holds Try.pinned (OpenSpec.upto fnExactAllNetsSpec)

/-- 'laws.FnExactCostOfNet', WHERE WHAT IT READS IS OF BULK AT MOST 1048576: true; the input reads as it did. -/
def fnExactCostOfNetUptoRow : OpenClaim := { program := "ytnddoiapilookaa", sum := "adeb9289cf01bcc737b555df51f4bcec9b4119c820a6d6a83ef1bc3d21997b27", func := "loop.example/g01338/laws.FnExactCostOfNet", spec := "fnExactCostOfNet", unfollowed := true, recurses := true, apart := false, narrowed := true }
def FnExactCostOfNetUptoSaid : Prop := fnExactCostOfNetUptoRow.holds Try.pinned (OpenSpec.upto fnExactCostOfNetSpec)

/-- 'laws.FnExactCoveredBy', WHERE WHAT IT READS IS OF BULK AT MOST 1048576: true; the input reads as it did. -/
def fnExactCoveredByUptoRow : OpenClaim := { program := "ytnddoiapilookaa", sum := "adeb9289cf01bcc737b555df51f4bcec9b4119c820a6d6a83ef1bc3d21997b27", func := "loop.example/g01338/laws.FnExactCoveredBy", spec := "fnExactCoveredBy", unfollowed := true, recurses := true, apart := false, narrowed := true }
def FnExactCoveredByUptoSaid : Prop := fnExactCoveredByUptoRow.holds Try.pinned (OpenSpec.upto fnExactCoveredBySpec)

/-- 'laws.FnExactTwiceCovered', WHERE WHAT IT READS IS OF BULK AT MOST 1048576: true; the input reads as it did. -/
def fnExactTwiceCoveredUptoRow : OpenClaim := { program := "ytnddoiapilookaa", sum := "adeb9289cf01bcc737b555df51f4bcec9b4119c820a6d6a83ef1bc3d21997b27", func := "loop.example/g01338/laws.FnExactTwiceCovered", spec := "fnExactTwiceCovered", unfollowed := true, recurses := true, apart := false, narrowed := true }
def FnExactTwiceCoveredUptoSaid : Prop := fnExactTwiceCoveredUptoRow.holds Try.pinned (OpenSpec.upto fnExactTwiceCoveredSpec)

/-- 'laws.FnExactWithHoles', WHERE WHAT IT READS IS OF BULK AT MOST 1048576: true; the input reads as it did. -/
def fnExactWithHolesUptoRow : OpenClaim := { program := "ytnddoiapilookaa", sum := "adeb9289cf01bcc737b555df51f4bcec9b4119c820a6d6a83ef1bc3d21997b27", func := "loop.example/g01338/laws.FnExactWithHoles", spec := "fnExactWithHoles", unfollowed := true, recurses := true, apart := false, narrowed := true }
def FnExactWithHolesUptoSaid : Prop := fnExactWithHolesUptoRow.holds Try.pinned (OpenSpec.upto fnExactWithHolesSpec)

/-- 'laws.FnExactCostOfNets', WHERE WHAT IT READS IS OF BULK AT MOST 1048576: true; the input reads as it did. -/
def fnExactCostOfNetsUptoRow : OpenClaim := { program := "ytnddoiapilookaa", sum := "adeb9289cf01bcc737b555df51f4bcec9b4119c820a6d6a83ef1bc3d21997b27", func := "loop.example/g01338/laws.FnExactCostOfNets", spec := "fnExactCostOfNets", unfollowed := true, recurses := true, apart := false, narrowed := true }
def FnExactCostOfNetsUptoSaid : Prop := fnExactCostOfNetsUptoRow.holds Try.pinned (OpenSpec.upto fnExactCostOfNetsSpec)

/-- 'laws.FnExactHolesToMend', WHERE WHAT IT READS IS OF BULK AT MOST 1048576: true; the input reads as it did. -/
def fnExactHolesToMendUptoRow : OpenClaim := { program := "ytnddoiapilookaa", sum := "adeb9289cf01bcc737b555df51f4bcec9b4119c820a6d6a83ef1bc3d21997b27", func := "loop.example/g01338/laws.FnExactHolesToMend", spec := "fnExactHolesToMend", unfollowed := true, recurses := true, apart := false, narrowed := true }
def FnExactHolesToMendUptoSaid : Prop := fnExactHolesToMendUptoRow.holds Try.pinned (OpenSpec.upto fnExactHolesToMendSpec)

/-- 'laws.FnExactCheckNets', WHERE WHAT IT READS IS OF BULK AT MOST 1048576: true; the input reads as it did. -/
def fnExactCheckNetsUptoRow : OpenClaim := { program := "ytnddoiapilookaa", sum := "adeb9289cf01bcc737b555df51f4bcec9b4119c820a6d6a83ef1bc3d21997b27", func := "loop.example/g01338/laws.FnExactCheckNets", spec := "fnExactCheckNets", unfollowed := true, recurses := true, apart := false, narrowed := true }
def FnExactCheckNetsUptoSaid : Prop := fnExactCheckNetsUptoRow.holds Try.pinned (OpenSpec.upto fnExactCheckNetsSpec)

/-- 'laws.FnExactFirstBare', WHERE WHAT IT READS IS OF BULK AT MOST 1048576: true; the input reads as it did. -/
def fnExactFirstBareUptoRow : OpenClaim := { program := "ytnddoiapilookaa", sum := "adeb9289cf01bcc737b555df51f4bcec9b4119c820a6d6a83ef1bc3d21997b27", func := "loop.example/g01338/laws.FnExactFirstBare", spec := "fnExactFirstBare", unfollowed := true, recurses := true, apart := false, narrowed := true }
def FnExactFirstBareUptoSaid : Prop := fnExactFirstBareUptoRow.holds Try.pinned (OpenSpec.upto fnExactFirstBareSpec)

/-- 'laws.FnExactTrimNets', WHERE WHAT IT READS IS OF BULK AT MOST 1048576: true; the input reads as it did. -/
def fnExactTrimNetsUptoRow : OpenClaim := { program := "ytnddoiapilookaa", sum := "adeb9289cf01bcc737b555df51f4bcec9b4119c820a6d6a83ef1bc3d21997b27", func := "loop.example/g01338/laws.FnExactTrimNets", spec := "fnExactTrimNets", unfollowed := true, recurses := true, apart := false, narrowed := true }
def FnExactTrimNetsUptoSaid : Prop := fnExactTrimNetsUptoRow.holds Try.pinned (OpenSpec.upto fnExactTrimNetsSpec)

/-- 'laws.FnExactGreedyNets', WHERE WHAT IT READS IS OF BULK AT MOST 1048576: true; the input reads as it did. -/
def fnExactGreedyNetsUptoRow : OpenClaim := { program := "ytnddoiapilookaa", sum := "adeb9289cf01bcc737b555df51f4bcec9b4119c820a6d6a83ef1bc3d21997b27", func := "loop.example/g01338/laws.FnExactGreedyNets", spec := "fnExactGreedyNets", unfollowed := true, recurses := true, apart := false, narrowed := true }
def FnExactGreedyNetsUptoSaid : Prop := fnExactGreedyNetsUptoRow.holds Try.pinned (OpenSpec.upto fnExactGreedyNetsSpec)

/-- 'laws.FnExactDutiesFor', WHERE WHAT IT READS IS OF BULK AT MOST 1048576: true; the input reads as it did. -/
def fnExactDutiesForUptoRow : OpenClaim := { program := "ytnddoiapilookaa", sum := "adeb9289cf01bcc737b555df51f4bcec9b4119c820a6d6a83ef1bc3d21997b27", func := "loop.example/g01338/laws.FnExactDutiesFor", spec := "fnExactDutiesFor", unfollowed := true, recurses := true, apart := false, narrowed := true }
def FnExactDutiesForUptoSaid : Prop := fnExactDutiesForUptoRow.holds Try.pinned (OpenSpec.upto fnExactDutiesForSpec)

end Rows
end Go.Proofs.Ytnddoiapilookaa
