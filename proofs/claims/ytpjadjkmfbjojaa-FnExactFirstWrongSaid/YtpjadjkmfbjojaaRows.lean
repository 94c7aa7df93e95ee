/-
  No cell of these rows narrows 'for every input' (looked for: loops, veiled, ifaces, maps, wideKeys, modest, calm, conditions, laid).
  DERIVED. THE GIVEN ROWS OF THIS SEAT. 6 by the template 'for every input the law returns true; each argument reads behind the call as it read before'; 0 by the template 'total and deterministic' (their statements: YtpjadjkmfbjojaaTotals.lean).
  GIVEN WITH THE SEED: the statements are not yours to turn. If you find one false, say at which input.
  Laid BY PROGRAM, IN A SANDBOX (cutbox-rows.mjs): the forced cells as the released guide's own fill.sh prints them over the translation 0db5f48c60375a2c… (all of the seat's roots in one cut). By AI agents, Wed Nov 11 2026. No macro, syntax, notation, axiom, sorry.
-/
import Derived.Test.YtpjadjkmfbjojaaChecked
import GoSem.Claim
import GoSem.ClaimJoined
import GoSem.ClaimMapViews
import Derived.JoinedTies
import Derived.KernelRfl
namespace Go.Proofs.Ytpjadjkmfbjojaa
/- THE CELL 'sum', in the pinned program and in every row, IS THE sha256 OF THE DUMP (.gsa) THAT YtpjadjkmfbjojaaProg.lean LOADS. Nothing in Lean hashes anything: it is a label: what it is worth is what the hold of that sum in a sandbox is worth. -/
noncomputable def Try.pinned : Pinned := { name := "ytpjadjkmfbjojaa", sum := "0db5f48c60375a2ca6ea793e35b5b084ddf61c7d3e60b5ba91e2cb7e40b692e0", checked := Try.checked }
namespace Rows
def none {H : Type} : Left H := { results := [], args := [] }

/-- 'laws.FnExactCellsFor': WHATEVER THE INPUT: true; the input reads as it did. -/
def fnExactCellsForSpec : ChangeSpec := { name := "fnExactCellsFor", fn := fun _ => fun
  | [d1, d2, d3] => { results := [.lit (.bool true)], args := [d1, d2, d3] }
  | _ => none }
def fnExactCellsForRow : OpenClaim := { program := "ytpjadjkmfbjojaa", sum := "0db5f48c60375a2ca6ea793e35b5b084ddf61c7d3e60b5ba91e2cb7e40b692e0", func := "loop.example/g01338/laws.FnExactCellsFor", spec := "fnExactCellsFor", unfollowed := true, recurses := true, apart := false }
def FnExactCellsForSaid : Prop := fnExactCellsForRow.holds Try.pinned (OpenSpec.ofChange fnExactCellsForSpec)

/-- ITS FALSE NEIGHBOUR: 'it returns false'. Refute it at one input. -/
def fnExactCellsForWrong : ChangeSpec := { name := "fnExactCellsFor", fn := fun _ => fun
  | [d1, d2, d3] => { results := [.lit (.bool false)], args := [d1, d2, d3] }
  | _ => none }
def FnExactCellsForWrongFalsely : Prop := fnExactCellsForRow.holds Try.pinned (OpenSpec.ofChange fnExactCellsForWrong)

/-- 'laws.FnExactFirstWrong': WHATEVER THE INPUT: true; the input reads as it did. -/
def fnExactFirstWrongSpec : ChangeSpec := { name := "fnExactFirstWrong", fn := fun _ => fun
  | [d1, d2] => { results := [.lit (.bool true)], args := [d1, d2] }
  | _ => none }
def fnExactFirstWrongRow : OpenClaim := { program := "ytpjadjkmfbjojaa", sum := "0db5f48c60375a2ca6ea793e35b5b084ddf61c7d3e60b5ba91e2cb7e40b692e0", func := "loop.example/g01338/laws.FnExactFirstWrong", spec := "fnExactFirstWrong", apart := false }
def FnExactFirstWrongSaid : Prop := fnExactFirstWrongRow.holds Try.pinned (OpenSpec.ofChange fnExactFirstWrongSpec)

/-- ITS FALSE NEIGHBOUR: 'it returns false'. Refute it at one input. -/
def fnExactFirstWrongWrong : ChangeSpec := { name := "fnExactFirstWrong", fn := fun _ => fun
  | [d1, d2] => { results := [.lit (.bool false)], args := [d1, d2] }
  | _ => none }
def FnExactFirstWrongWrongFalsely : Prop := fnExactFirstWrongRow.holds Try.pinned (OpenSpec.ofChange fnExactFirstWrongWrong)

/-- 'laws.FnExactLostBy': WHATEVER THE INPUT: true; the input reads as it did. -/
def fnExactLostBySpec : ChangeSpec := { name := "fnExactLostBy", fn := fun _ => fun
  | [d1, d2, d3] => { results := [.lit (.bool true)], args := [d1, d2, d3] }
  | _ => none }
def fnExactLostByRow : OpenClaim := { program := "ytpjadjkmfbjojaa", sum := "0db5f48c60375a2ca6ea793e35b5b084ddf61c7d3e60b5ba91e2cb7e40b692e0", func := "loop.example/g01338/laws.FnExactLostBy", spec := "fnExactLostBy", apart := false }
def FnExactLostBySaid : Prop := fnExactLostByRow.holds Try.pinned (OpenSpec.ofChange fnExactLostBySpec)

/-- ITS FALSE NEIGHBOUR: 'it returns false'. Refute it at one input. -/
def fnExactLostByWrong : ChangeSpec := { name := "fnExactLostBy", fn := fun _ => fun
  | [d1, d2, d3] => { results := [.lit (.bool false)], args := [d1, d2, d3] }
  | _ => none }
def FnExactLostByWrongFalsely : Prop := fnExactLostByRow.holds Try.pinned (OpenSpec.ofChange fnExactLostByWrong)

/-- 'laws.FnExactFearOf': WHATEVER THE INPUT: true; the input reads as it did. -/
def fnExactFearOfSpec : ChangeSpec := { name := "fnExactFearOf", fn := fun _ => fun
  | [d1, d2, d3] => { results := [.lit (.bool true)], args := [d1, d2, d3] }
  | _ => none }
def fnExactFearOfRow : OpenClaim := { program := "ytpjadjkmfbjojaa", sum := "0db5f48c60375a2ca6ea793e35b5b084ddf61c7d3e60b5ba91e2cb7e40b692e0", func := "loop.example/g01338/laws.FnExactFearOf", spec := "fnExactFearOf", unfollowed := true, recurses := true, apart := false }
def FnExactFearOfSaid : Prop := fnExactFearOfRow.holds Try.pinned (OpenSpec.ofChange fnExactFearOfSpec)

/-- ITS FALSE NEIGHBOUR: 'it returns false'. Refute it at one input. -/
def fnExactFearOfWrong : ChangeSpec := { name := "fnExactFearOf", fn := fun _ => fun
  | [d1, d2, d3] => { results := [.lit (.bool false)], args := [d1, d2, d3] }
  | _ => none }
def FnExactFearOfWrongFalsely : Prop := fnExactFearOfRow.holds Try.pinned (OpenSpec.ofChange fnExactFearOfWrong)

/-- 'laws.FnExactGreedyPlan': WHATEVER THE INPUT: true; the input reads as it did. -/
def fnExactGreedyPlanSpec : ChangeSpec := { name := "fnExactGreedyPlan", fn := fun _ => fun
  | [d1, d2, d3] => { results := [.lit (.bool true)], args := [d1, d2, d3] }
  | _ => none }
def fnExactGreedyPlanRow : OpenClaim := { program := "ytpjadjkmfbjojaa", sum := "0db5f48c60375a2ca6ea793e35b5b084ddf61c7d3e60b5ba91e2cb7e40b692e0", func := "loop.example/g01338/laws.FnExactGreedyPlan", spec := "fnExactGreedyPlan", apart := false }
def FnExactGreedyPlanSaid : Prop := fnExactGreedyPlanRow.holds Try.pinned (OpenSpec.ofChange fnExactGreedyPlanSpec)

/-- ITS FALSE NEIGHBOUR: 'it returns false'. Refute it at one input. -/
def fnExactGreedyPlanWrong : ChangeSpec := { name := "fnExactGreedyPlan", fn := fun _ => fun
  | [d1, d2, d3] => { results := [.lit (.bool false)], args := [d1, d2, d3] }
  | _ => none }
def FnExactGreedyPlanWrongFalsely : Prop := fnExactGreedyPlanRow.holds Try.pinned (OpenSpec.ofChange fnExactGreedyPlanWrong)

/-- 'laws.FnExactFearMap': WHATEVER THE INPUT: true; the input reads as it did. -/
def fnExactFearMapSpec : ChangeSpec := { name := "fnExactFearMap", fn := fun _ => fun
  | [d1, d2] => { results := [.lit (.bool true)], args := [d1, d2] }
  | _ => none }
def fnExactFearMapRow : OpenClaim := { program := "ytpjadjkmfbjojaa", sum := "0db5f48c60375a2ca6ea793e35b5b084ddf61c7d3e60b5ba91e2cb7e40b692e0", func := "loop.example/g01338/laws.FnExactFearMap", spec := "fnExactFearMap", unfollowed := true, recurses := true, apart := false }
def FnExactFearMapSaid : Prop := fnExactFearMapRow.holds Try.pinned (OpenSpec.ofChange fnExactFearMapSpec)

/-- ITS FALSE NEIGHBOUR: 'it returns false'. Refute it at one input. -/
def fnExactFearMapWrong : ChangeSpec := { name := "fnExactFearMap", fn := fun _ => fun
  | [d1, d2] => { results := [.lit (.bool false)], args := [d1, d2] }
  | _ => none }
def FnExactFearMapWrongFalsely : Prop := fnExactFearMapRow.holds Try.pinned (OpenSpec.ofChange fnExactFearMapWrong)

/- THE SECOND FORM. 'bulk': how many values and letters a reading holds, each counted each time it is reached (what is shared counts as often as it is met; a slice's spare places count too). A statement '..UptoSaid' is the law's where the arguments, and the package variables that the reading takes, are together of bulk at most 1048576: NARROWER than '..Said'. Prove '..Said' where nothing that the law and all that it calls make is longer than what came in: it says more and counts as full. Else prove '..UptoSaid'. A law counts once. -/
mutual
def uptoBulk {H : Type} : DataW H → Nat
  | .lit (.string bytes) => bytes.length + 1
  | .lit _ => 1
  | .nil => 1
  | .ptr d => uptoBulk d + 1
  | .slice elems spare => uptoBulkAll elems + uptoBulkAll spare + 1
  | .agg parts => uptoBulkAll parts + 1
  | .iface _ d => uptoBulk d + 1
  | .map entries => uptoBulkEntries entries + 1
  | .held _ => 1
def uptoBulkAll {H : Type} : List (DataW H) → Nat
  | [] => 0
  | d :: r => uptoBulk d + uptoBulkAll r
def uptoBulkEntries {H : Type} : List (Lit × DataW H) → Nat
  | [] => 0
  | x :: r => uptoBulkEntry x + uptoBulkEntries r
def uptoBulkEntry {H : Type} : Lit × DataW H → Nat
  | (.string bytes, d) => bytes.length + uptoBulk d + 1
  | (_, d) => uptoBulk d + 1
 end
def uptoSmall : (H : Type) → List (DataW H) → Bool := fun _ ds => decide (uptoBulkAll ds ≤ 1048576)
def OpenSpec.upto (s : _root_.Go.ChangeSpec) : _root_.Go.OpenSpec := { _root_.Go.OpenSpec.ofChange s with cond := some uptoSmall }

/-- 'laws.FnExactCellsFor', WHERE WHAT IT READS IS OF BULK AT MOST 1048576: true; the input reads as it did. -/
def fnExactCellsForUptoRow : OpenClaim := { program := "ytpjadjkmfbjojaa", sum := "0db5f48c60375a2ca6ea793e35b5b084ddf61c7d3e60b5ba91e2cb7e40b692e0", func := "loop.example/g01338/laws.FnExactCellsFor", spec := "fnExactCellsFor", unfollowed := true, recurses := true, apart := false, narrowed := true }
def FnExactCellsForUptoSaid : Prop := fnExactCellsForUptoRow.holds Try.pinned (OpenSpec.upto fnExactCellsForSpec)

/-- 'laws.FnExactFirstWrong', WHERE WHAT IT READS IS OF BULK AT MOST 1048576: true; the input reads as it did. -/
def fnExactFirstWrongUptoRow : OpenClaim := { program := "ytpjadjkmfbjojaa", sum := "0db5f48c60375a2ca6ea793e35b5b084ddf61c7d3e60b5ba91e2cb7e40b692e0", func := "loop.example/g01338/laws.FnExactFirstWrong", spec := "fnExactFirstWrong", apart := false, narrowed := true }
def FnExactFirstWrongUptoSaid : Prop := fnExactFirstWrongUptoRow.holds Try.pinned (OpenSpec.upto fnExactFirstWrongSpec)

/-- 'laws.FnExactLostBy', WHERE WHAT IT READS IS OF BULK AT MOST 1048576: true; the input reads as it did. -/
def fnExactLostByUptoRow : OpenClaim := { program := "ytpjadjkmfbjojaa", sum := "0db5f48c60375a2ca6ea793e35b5b084ddf61c7d3e60b5ba91e2cb7e40b692e0", func := "loop.example/g01338/laws.FnExactLostBy", spec := "fnExactLostBy", apart := false, narrowed := true }
def FnExactLostByUptoSaid : Prop := fnExactLostByUptoRow.holds Try.pinned (OpenSpec.upto fnExactLostBySpec)

/-- 'laws.FnExactFearOf', WHERE WHAT IT READS IS OF BULK AT MOST 1048576: true; the input reads as it did. -/
def fnExactFearOfUptoRow : OpenClaim := { program := "ytpjadjkmfbjojaa", sum := "0db5f48c60375a2ca6ea793e35b5b084ddf61c7d3e60b5ba91e2cb7e40b692e0", func := "loop.example/g01338/laws.FnExactFearOf", spec := "fnExactFearOf", unfollowed := true, recurses := true, apart := false, narrowed := true }
def FnExactFearOfUptoSaid : Prop := fnExactFearOfUptoRow.holds Try.pinned (OpenSpec.upto fnExactFearOfSpec)

/-- 'laws.FnExactGreedyPlan', WHERE WHAT IT READS IS OF BULK AT MOST 1048576: true; the input reads as it did. -/
def fnExactGreedyPlanUptoRow : OpenClaim := { program := "ytpjadjkmfbjojaa", sum := "0db5f48c60375a2ca6ea793e35b5b084ddf61c7d3e60b5ba91e2cb7e40b692e0", func := "loop.example/g01338/laws.FnExactGreedyPlan", spec := "fnExactGreedyPlan", apart := false, narrowed := true }
def FnExactGreedyPlanUptoSaid : Prop := fnExactGreedyPlanUptoRow.holds Try.pinned (OpenSpec.upto fnExactGreedyPlanSpec)

/-- 'laws.FnExactFearMap', WHERE WHAT IT READS IS OF BULK AT MOST 1048576: true; the input reads as it did. -/
def fnExactFearMapUptoRow : OpenClaim := { program := "ytpjadjkmfbjojaa", sum := "0db5f48c60375a2ca6ea793e35b5b084ddf61c7d3e60b5ba91e2cb7e40b692e0", func := "loop.example/g01338/laws.FnExactFearMap", spec := "fnExactFearMap", unfollowed := true, recurses := true, apart := false, narrowed := true }
def FnExactFearMapUptoSaid : Prop := fnExactFearMapUptoRow.holds Try.pinned (OpenSpec.upto fnExactFearMapSpec)

end Rows
end Go.Proofs.Ytpjadjkmfbjojaa
