/-
  No cell of these rows narrows 'for every input' (looked for: loops, veiled, ifaces, maps, wideKeys, modest, calm, conditions, laid).
  DERIVED. THE GIVEN ROWS OF THIS SEAT. 12 by the template 'for every input the law returns true; each argument reads behind the call as it read before'; 0 by the template 'total and deterministic' (their statements: YtbjcajhbhicokaaTotals.lean).
  GIVEN WITH THE SEED: the statements are not yours to turn. If you find one false, say at which input.
  Laid BY PROGRAM, IN A SANDBOX (cutbox-rows.mjs): the forced cells as the released guide's own fill.sh prints them over the translation 2a4cd8541f7fca93… (all of the seat's roots in one cut). By AI agents, Wed Nov 11 2026. No macro, syntax, notation, axiom, sorry.
-/
import Derived.Test.YtbjcajhbhicokaaChecked
import GoSem.Claim
import GoSem.ClaimJoined
import GoSem.ClaimMapViews
import Derived.JoinedTies
import Derived.KernelRfl
namespace Go.Proofs.Ytbjcajhbhicokaa
/- THE CELL 'sum', in the pinned program and in every row, IS THE sha256 OF THE DUMP (.gsa) THAT YtbjcajhbhicokaaProg.lean LOADS. Nothing in Lean hashes anything: it is a label: what it is worth is what the hold of that sum in a sandbox is worth. -/
noncomputable def Try.pinned : Pinned := { name := "ytbjcajhbhicokaa", sum := "2a4cd8541f7fca93206357f2ccea5f52f9bdc9c90f5a9db57b87a33ce10b4714", checked := Try.checked }
namespace Rows
def none {H : Type} : Left H := { results := [], args := [] }

/-- 'laws.FnExactCellsFor': WHATEVER THE INPUT: true; the input reads as it did. -/
def fnExactCellsForSpec : ChangeSpec := { name := "fnExactCellsFor", fn := fun _ => fun
  | [d1, d2, d3] => { results := [.lit (.bool true)], args := [d1, d2, d3] }
  | _ => none }
def fnExactCellsForRow : OpenClaim := { program := "ytbjcajhbhicokaa", sum := "2a4cd8541f7fca93206357f2ccea5f52f9bdc9c90f5a9db57b87a33ce10b4714", func := "loop.example/g01338/laws.FnExactCellsFor", spec := "fnExactCellsFor", unfollowed := true, recurses := true, apart := false }
def FnExactCellsForSaid : Prop := fnExactCellsForRow.holds Try.pinned (OpenSpec.ofChange fnExactCellsForSpec)

/-- ITS FALSE NEIGHBOUR: 'it returns false'. Refute it at one input. -/
def fnExactCellsForWrong : ChangeSpec := { name := "fnExactCellsFor", fn := fun _ => fun
  | [d1, d2, d3] => { results := [.lit (.bool false)], args := [d1, d2, d3] }
  | _ => none }
def FnExactCellsForWrongFalsely : Prop := fnExactCellsForRow.holds Try.pinned (OpenSpec.ofChange fnExactCellsForWrong)

/-- 'laws.FnExactLostBy': WHATEVER THE INPUT: true; the input reads as it did. -/
def fnExactLostBySpec : ChangeSpec := { name := "fnExactLostBy", fn := fun _ => fun
  | [d1, d2, d3] => { results := [.lit (.bool true)], args := [d1, d2, d3] }
  | _ => none }
def fnExactLostByRow : OpenClaim := { program := "ytbjcajhbhicokaa", sum := "2a4cd8541f7fca93206357f2ccea5f52f9bdc9c90f5a9db57b87a33ce10b4714", func := "loop.example/g01338/laws.FnExactLostBy", spec := "fnExactLostBy", apart := false }
def FnExactLostBySaid : Prop := fnExactLostByRow.holds Try.pinned (OpenSpec.ofChange fnExactLostBySpec)

/-- ITS FALSE NEIGHBOUR: 'it returns false'. Refute it at one input. -/
def fnExactLostByWrong : ChangeSpec := { name := "fnExactLostBy", fn := fun _ => fun
  | [d1, d2, d3] => { results := [.lit (.bool false)], args := [d1, d2, d3] }
  | _ => none }
def FnExactLostByWrongFalsely : Prop := fnExactLostByRow.holds Try.pinned (OpenSpec.ofChange fnExactLostByWrong)

/-- 'laws.FnExactGreedyPlan': WHATEVER THE INPUT: true; the input reads as it did. -/
def fnExactGreedyPlanSpec : ChangeSpec := { name := "fnExactGreedyPlan", fn := fun _ => fun
  | [d1, d2, d3] => { results := [.lit (.bool true)], args := [d1, d2, d3] }
  | _ => none }
def fnExactGreedyPlanRow : OpenClaim := { program := "ytbjcajhbhicokaa", sum := "2a4cd8541f7fca93206357f2ccea5f52f9bdc9c90f5a9db57b87a33ce10b4714", func := "loop.example/g01338/laws.FnExactGreedyPlan", spec := "fnExactGreedyPlan", apart := false }
def FnExactGreedyPlanSaid : Prop := fnExactGreedyPlanRow.holds Try.pinned (OpenSpec.ofChange fnExactGreedyPlanSpec)

/-- ITS FALSE NEIGHBOUR: 'it returns false'. Refute it at one input. -/
def fnExactGreedyPlanWrong : ChangeSpec := { name := "fnExactGreedyPlan", fn := fun _ => fun
  | [d1, d2, d3] => { results := [.lit (.bool false)], args := [d1, d2, d3] }
  | _ => none }
def FnExactGreedyPlanWrongFalsely : Prop := fnExactGreedyPlanRow.holds Try.pinned (OpenSpec.ofChange fnExactGreedyPlanWrong)

/-- 'laws.FnExactMoveFlock': WHATEVER THE INPUT: true; the input reads as it did. -/
def fnExactMoveFlockSpec : ChangeSpec := { name := "fnExactMoveFlock", fn := fun _ => fun
  | [d1, d2, d3, d4] => { results := [.lit (.bool true)], args := [d1, d2, d3, d4] }
  | _ => none }
def fnExactMoveFlockRow : OpenClaim := { program := "ytbjcajhbhicokaa", sum := "2a4cd8541f7fca93206357f2ccea5f52f9bdc9c90f5a9db57b87a33ce10b4714", func := "loop.example/g01338/laws.FnExactMoveFlock", spec := "fnExactMoveFlock", unfollowed := true, recurses := true, apart := false }
def FnExactMoveFlockSaid : Prop := fnExactMoveFlockRow.holds Try.pinned (OpenSpec.ofChange fnExactMoveFlockSpec)

/-- ITS FALSE NEIGHBOUR: 'it returns false'. Refute it at one input. -/
def fnExactMoveFlockWrong : ChangeSpec := { name := "fnExactMoveFlock", fn := fun _ => fun
  | [d1, d2, d3, d4] => { results := [.lit (.bool false)], args := [d1, d2, d3, d4] }
  | _ => none }
def FnExactMoveFlockWrongFalsely : Prop := fnExactMoveFlockRow.holds Try.pinned (OpenSpec.ofChange fnExactMoveFlockWrong)

/-- 'laws.FnExactSplitFlock': WHATEVER THE INPUT: true; the input reads as it did. -/
def fnExactSplitFlockSpec : ChangeSpec := { name := "fnExactSplitFlock", fn := fun _ => fun
  | [d1, d2, d3, d4] => { results := [.lit (.bool true)], args := [d1, d2, d3, d4] }
  | _ => none }
def fnExactSplitFlockRow : OpenClaim := { program := "ytbjcajhbhicokaa", sum := "2a4cd8541f7fca93206357f2ccea5f52f9bdc9c90f5a9db57b87a33ce10b4714", func := "loop.example/g01338/laws.FnExactSplitFlock", spec := "fnExactSplitFlock", unfollowed := true, recurses := true, apart := false }
def FnExactSplitFlockSaid : Prop := fnExactSplitFlockRow.holds Try.pinned (OpenSpec.ofChange fnExactSplitFlockSpec)

/-- ITS FALSE NEIGHBOUR: 'it returns false'. Refute it at one input. -/
def fnExactSplitFlockWrong : ChangeSpec := { name := "fnExactSplitFlock", fn := fun _ => fun
  | [d1, d2, d3, d4] => { results := [.lit (.bool false)], args := [d1, d2, d3, d4] }
  | _ => none }
def FnExactSplitFlockWrongFalsely : Prop := fnExactSplitFlockRow.holds Try.pinned (OpenSpec.ofChange fnExactSplitFlockWrong)

/-- 'laws.FnExactChoiceOf': WHATEVER THE INPUT: true; the input reads as it did. -/
def fnExactChoiceOfSpec : ChangeSpec := { name := "fnExactChoiceOf", fn := fun _ => fun
  | [d1, d2, d3] => { results := [.lit (.bool true)], args := [d1, d2, d3] }
  | _ => none }
def fnExactChoiceOfRow : OpenClaim := { program := "ytbjcajhbhicokaa", sum := "2a4cd8541f7fca93206357f2ccea5f52f9bdc9c90f5a9db57b87a33ce10b4714", func := "loop.example/g01338/laws.FnExactChoiceOf", spec := "fnExactChoiceOf", unfollowed := true, recurses := true, apart := false }
def FnExactChoiceOfSaid : Prop := fnExactChoiceOfRow.holds Try.pinned (OpenSpec.ofChange fnExactChoiceOfSpec)

/-- ITS FALSE NEIGHBOUR: 'it returns false'. Refute it at one input. -/
def fnExactChoiceOfWrong : ChangeSpec := { name := "fnExactChoiceOf", fn := fun _ => fun
  | [d1, d2, d3] => { results := [.lit (.bool false)], args := [d1, d2, d3] }
  | _ => none }
def FnExactChoiceOfWrongFalsely : Prop := fnExactChoiceOfRow.holds Try.pinned (OpenSpec.ofChange fnExactChoiceOfWrong)

/-- 'laws.FnExactEatenBy': WHATEVER THE INPUT: true; the input reads as it did. -/
def fnExactEatenBySpec : ChangeSpec := { name := "fnExactEatenBy", fn := fun _ => fun
  | [d1, d2, d3] => { results := [.lit (.bool true)], args := [d1, d2, d3] }
  | _ => none }
def fnExactEatenByRow : OpenClaim := { program := "ytbjcajhbhicokaa", sum := "2a4cd8541f7fca93206357f2ccea5f52f9bdc9c90f5a9db57b87a33ce10b4714", func := "loop.example/g01338/laws.FnExactEatenBy", spec := "fnExactEatenBy", unfollowed := true, recurses := true, apart := false }
def FnExactEatenBySaid : Prop := fnExactEatenByRow.holds Try.pinned (OpenSpec.ofChange fnExactEatenBySpec)

/-- ITS FALSE NEIGHBOUR: 'it returns false'. Refute it at one input. -/
def fnExactEatenByWrong : ChangeSpec := { name := "fnExactEatenBy", fn := fun _ => fun
  | [d1, d2, d3] => { results := [.lit (.bool false)], args := [d1, d2, d3] }
  | _ => none }
def FnExactEatenByWrongFalsely : Prop := fnExactEatenByRow.holds Try.pinned (OpenSpec.ofChange fnExactEatenByWrong)

/-- 'laws.FnExactEatOnce': WHATEVER THE INPUT: true; the input reads as it did. -/
def fnExactEatOnceSpec : ChangeSpec := { name := "fnExactEatOnce", fn := fun _ => fun
  | [d1, d2, d3] => { results := [.lit (.bool true)], args := [d1, d2, d3] }
  | _ => none }
def fnExactEatOnceRow : OpenClaim := { program := "ytbjcajhbhicokaa", sum := "2a4cd8541f7fca93206357f2ccea5f52f9bdc9c90f5a9db57b87a33ce10b4714", func := "loop.example/g01338/laws.FnExactEatOnce", spec := "fnExactEatOnce", unfollowed := true, recurses := true, apart := false }
def FnExactEatOnceSaid : Prop := fnExactEatOnceRow.holds Try.pinned (OpenSpec.ofChange fnExactEatOnceSpec)

/-- ITS FALSE NEIGHBOUR: 'it returns false'. Refute it at one input. -/
def fnExactEatOnceWrong : ChangeSpec := { name := "fnExactEatOnce", fn := fun _ => fun
  | [d1, d2, d3] => { results := [.lit (.bool false)], args := [d1, d2, d3] }
  | _ => none }
def FnExactEatOnceWrongFalsely : Prop := fnExactEatOnceRow.holds Try.pinned (OpenSpec.ofChange fnExactEatOnceWrong)

/-- 'laws.FnExactFeedFlock': WHATEVER THE INPUT: true; the input reads as it did. -/
def fnExactFeedFlockSpec : ChangeSpec := { name := "fnExactFeedFlock", fn := fun _ => fun
  | [d1, d2, d3] => { results := [.lit (.bool true)], args := [d1, d2, d3] }
  | _ => none }
def fnExactFeedFlockRow : OpenClaim := { program := "ytbjcajhbhicokaa", sum := "2a4cd8541f7fca93206357f2ccea5f52f9bdc9c90f5a9db57b87a33ce10b4714", func := "loop.example/g01338/laws.FnExactFeedFlock", spec := "fnExactFeedFlock", unfollowed := true, recurses := true, apart := false }
def FnExactFeedFlockSaid : Prop := fnExactFeedFlockRow.holds Try.pinned (OpenSpec.ofChange fnExactFeedFlockSpec)

/-- ITS FALSE NEIGHBOUR: 'it returns false'. Refute it at one input. -/
def fnExactFeedFlockWrong : ChangeSpec := { name := "fnExactFeedFlock", fn := fun _ => fun
  | [d1, d2, d3] => { results := [.lit (.bool false)], args := [d1, d2, d3] }
  | _ => none }
def FnExactFeedFlockWrongFalsely : Prop := fnExactFeedFlockRow.holds Try.pinned (OpenSpec.ofChange fnExactFeedFlockWrong)

/-- 'laws.FnExactStillHungry': WHATEVER THE INPUT: true; the input reads as it did. -/
def fnExactStillHungrySpec : ChangeSpec := { name := "fnExactStillHungry", fn := fun _ => fun
  | [d1, d2, d3] => { results := [.lit (.bool true)], args := [d1, d2, d3] }
  | _ => none }
def fnExactStillHungryRow : OpenClaim := { program := "ytbjcajhbhicokaa", sum := "2a4cd8541f7fca93206357f2ccea5f52f9bdc9c90f5a9db57b87a33ce10b4714", func := "loop.example/g01338/laws.FnExactStillHungry", spec := "fnExactStillHungry", unfollowed := true, recurses := true, apart := false }
def FnExactStillHungrySaid : Prop := fnExactStillHungryRow.holds Try.pinned (OpenSpec.ofChange fnExactStillHungrySpec)

/-- ITS FALSE NEIGHBOUR: 'it returns false'. Refute it at one input. -/
def fnExactStillHungryWrong : ChangeSpec := { name := "fnExactStillHungry", fn := fun _ => fun
  | [d1, d2, d3] => { results := [.lit (.bool false)], args := [d1, d2, d3] }
  | _ => none }
def FnExactStillHungryWrongFalsely : Prop := fnExactStillHungryRow.holds Try.pinned (OpenSpec.ofChange fnExactStillHungryWrong)

/-- 'laws.FnExactFeedAll': WHATEVER THE INPUT: true; the input reads as it did. -/
def fnExactFeedAllSpec : ChangeSpec := { name := "fnExactFeedAll", fn := fun _ => fun
  | [d1, d2, d3] => { results := [.lit (.bool true)], args := [d1, d2, d3] }
  | _ => none }
def fnExactFeedAllRow : OpenClaim := { program := "ytbjcajhbhicokaa", sum := "2a4cd8541f7fca93206357f2ccea5f52f9bdc9c90f5a9db57b87a33ce10b4714", func := "loop.example/g01338/laws.FnExactFeedAll", spec := "fnExactFeedAll", unfollowed := true, recurses := true, apart := false }
def FnExactFeedAllSaid : Prop := fnExactFeedAllRow.holds Try.pinned (OpenSpec.ofChange fnExactFeedAllSpec)

/-- ITS FALSE NEIGHBOUR: 'it returns false'. Refute it at one input. -/
def fnExactFeedAllWrong : ChangeSpec := { name := "fnExactFeedAll", fn := fun _ => fun
  | [d1, d2, d3] => { results := [.lit (.bool false)], args := [d1, d2, d3] }
  | _ => none }
def FnExactFeedAllWrongFalsely : Prop := fnExactFeedAllRow.holds Try.pinned (OpenSpec.ofChange fnExactFeedAllWrong)

/-- 'laws.FnExactFeedDays': WHATEVER THE INPUT: true; the input reads as it did. -/
def fnExactFeedDaysSpec : ChangeSpec := { name := "fnExactFeedDays", fn := fun _ => fun
  | [d1, d2, d3, d4] => { results := [.lit (.bool true)], args := [d1, d2, d3, d4] }
  | _ => none }
def fnExactFeedDaysRow : OpenClaim := { program := "ytbjcajhbhicokaa", sum := "2a4cd8541f7fca93206357f2ccea5f52f9bdc9c90f5a9db57b87a33ce10b4714", func := "loop.example/g01338/laws.FnExactFeedDays", spec := "fnExactFeedDays", unfollowed := true, recurses := true, apart := false }
def FnExactFeedDaysSaid : Prop := fnExactFeedDaysRow.holds Try.pinned (OpenSpec.ofChange fnExactFeedDaysSpec)

/-- ITS FALSE NEIGHBOUR: 'it returns false'. Refute it at one input. -/
def fnExactFeedDaysWrong : ChangeSpec := { name := "fnExactFeedDays", fn := fun _ => fun
  | [d1, d2, d3, d4] => { results := [.lit (.bool false)], args := [d1, d2, d3, d4] }
  | _ => none }
def FnExactFeedDaysWrongFalsely : Prop := fnExactFeedDaysRow.holds Try.pinned (OpenSpec.ofChange fnExactFeedDaysWrong)

/- THE SECOND FORM. 'bulk': how many values and letters a reading holds, each counted each time it is reached (what is shared counts as often as it is met; a slice's spare places count too). A statement '..UptoSaid' is the law's where the arguments, and the package variables that the reading takes, are together of bulk at most 1048576: NARROWER than '..Said'. Prove '..Said' where nothing that the law and all that it calls make is longer than what came in: it says more and counts as full. Else prove '..UptoSaid'. A law counts once. -/
mutual
def uptoBulk {H : Type} : DataW H → Nat
  | .lit (.string bytes) => bytes.length + 1
  | .lit _ => 1
  | .nil => 1
  | .ptr d => uptoBulk d + 1
  | .slice elems spare => uptoBulkAll elems + uptoBulkAll spare + 1
  | .agg parts => uptoBulkAll parts + 1
  | .iface _ d => uptoBulk d + 1
  | .map entries => uptoBulkEntries entries + 1
  | .held _ => 1
def uptoBulkAll {H : Type} : List (DataW H) → Nat
  | [] => 0
  | d :: r => uptoBulk d + uptoBulkAll r
def uptoBulkEntries {H : Type} : List (Lit × DataW H) → Nat
  | [] => 0
  | x :: r => uptoBulkEntry x + uptoBulkEntries r
def uptoBulkEntry {H : Type} : Lit × DataW H → Nat
  | (.string bytes, d) => bytes.length + uptoBulk d + 1
  | (_, d) => uptoBulk d + 1
 end
def uptoSmall : (H : Type) → List (DataW H) → Bool := fun _ ds => decide (uptoBulkAll ds ≤ 1048576)
def OpenSpec.upto (s : _root_.Go.ChangeSpec) : _root_.Go.OpenSpec := { _root_.Go.OpenSpec.ofChange s with cond := some uptoSmall }

/-- 'laws.FnExactCellsFor', WHERE WHAT IT READS IS OF BULK AT MOST 1048576: true; the input reads as it did. -/
def fnExactCellsForUptoRow : OpenClaim := { program := "ytbjcajhbhicokaa", sum := "2a4cd8541f7fca93206357f2ccea5f52f9bdc9c90f5a9db57b87a33ce10b4714", func := "loop.example/g01338/laws.FnExactCellsFor", spec := "fnExactCellsFor", unfollowed := true, recurses := true, apart := false, narrowed := true }
def FnExactCellsForUptoSaid : Prop := fnExactCellsForUptoRow.holds Try.pinned (OpenSpec.upto fnExactCellsForSpec)

/-- 'laws.FnExactLostBy', WHERE WHAT IT READS IS OF BULK AT MOST 1048576: true; the input reads as it did. -/
def fnExactLostByUptoRow : OpenClaim := { program := "ytbjcajhbhicokaa", sum := "2a4cd8541f7fca93206357f2ccea5f52f9bdc9c90f5a9db57b87a33ce10b4714", func := "loop.example/g01338/laws.FnExactLostBy", spec := "fnExactLostBy", apart := false, narrowed := true }
def FnExactLostByUptoSaid : Prop := fnExactLostByUptoRow.holds Try.pinned (OpenSpec.upto fnExactLostBySpec)

/-- 'laws.FnExactGreedyPlan', WHERE WHAT IT READS IS OF BULK AT MOST 1048576: true; the input reads as it did. -/
def fnExactGreedyPlanUptoRow : OpenClaim := { program := "ytbjcajhbhicokaa", sum := "2a4cd8541f7fca93206357f2ccea5f52f9bdc9c90f5a9db57b87a33ce10b4714", func := "loop.example/g01338/laws.FnExactGreedyPlan", spec := "fnExactGreedyPlan", apart := false, narrowed := true }
def FnExactGreedyPlanUptoSaid : Prop := fnExactGreedyPlanUptoRow.holds Try.pinned (OpenSpec.upto fnExactGreedyPlanSpec)

/-- 'laws.FnExactMoveFlock', WHERE WHAT IT READS IS OF BULK AT MOST 1048576: true; the input reads as it did. -/
def fnExactMoveFlockUptoRow : OpenClaim := { program := "ytbjcajhbhicokaa", sum := "2a4cd8541f7fca93206357f2ccea5f52f9bdc9c90f5a9db57b87a33ce10b4714", func := "loop.example/g01338/laws.FnExactMoveFlock", spec := "fnExactMoveFlock", unfollowed := true, recurses := true, apart := false, narrowed := true }
def FnExactMoveFlockUptoSaid : Prop := fnExactMoveFlockUptoRow.holds Try.pinned (OpenSpec.upto fnExactMoveFlockSpec)

/-- 'laws.FnExactSplitFlock', WHERE WHAT IT READS IS OF BULK AT MOST 1048576: true; the input reads as it did. -/
def fnExactSplitFlockUptoRow : OpenClaim := { program := "ytbjcajhbhicokaa", sum := "2a4cd8541f7fca93206357f2ccea5f52f9bdc9c90f5a9db57b87a33ce10b4714", func := "loop.example/g01338/laws.FnExactSplitFlock", spec := "fnExactSplitFlock", unfollowed := true, recurses := true, apart := false, narrowed := true }
def FnExactSplitFlockUptoSaid : Prop := fnExactSplitFlockUptoRow.holds Try.pinned (OpenSpec.upto fnExactSplitFlockSpec)

/-- 'laws.FnExactChoiceOf', WHERE WHAT IT READS IS OF BULK AT MOST 1048576: true; the input reads as it did. -/
def fnExactChoiceOfUptoRow : OpenClaim := { program := "ytbjcajhbhicokaa", sum := "2a4cd8541f7fca93206357f2ccea5f52f9bdc9c90f5a9db57b87a33ce10b4714", func := "loop.example/g01338/laws.FnExactChoiceOf", spec := "fnExactChoiceOf", unfollowed := true, recurses := true, apart := false, narrowed := true }
def FnExactChoiceOfUptoSaid : Prop := fnExactChoiceOfUptoRow.holds Try.pinned (OpenSpec.upto fnExactChoiceOfSpec)

/-- 'laws.FnExactEatenBy', WHERE WHAT IT READS IS OF BULK AT MOST 1048576: true; the input reads as it did. -/
def fnExactEatenByUptoRow : OpenClaim := { program := "ytbjcajhbhicokaa", sum := "2a4cd8541f7fca93206357f2ccea5f52f9bdc9c90f5a9db57b87a33ce10b4714", func := "loop.example/g01338/laws.FnExactEatenBy", spec := "fnExactEatenBy", unfollowed := true, recurses := true, apart := false, narrowed := true }
def FnExactEatenByUptoSaid : Prop := fnExactEatenByUptoRow.holds Try.pinned (OpenSpec.upto fnExactEatenBySpec)

/-- 'laws.FnExactEatOnce', WHERE WHAT IT READS IS OF BULK AT MOST 1048576: true; the input reads as it did. -/
def fnExactEatOnceUptoRow : OpenClaim := { program := "ytbjcajhbhicokaa", sum := "2a4cd8541f7fca93206357f2ccea5f52f9bdc9c90f5a9db57b87a33ce10b4714", func := "loop.example/g01338/laws.FnExactEatOnce", spec := "fnExactEatOnce", unfollowed := true, recurses := true, apart := false, narrowed := true }
def FnExactEatOnceUptoSaid : Prop := fnExactEatOnceUptoRow.holds Try.pinned (OpenSpec.upto fnExactEatOnceSpec)

/-- 'laws.FnExactFeedFlock', WHERE WHAT IT READS IS OF BULK AT MOST 1048576: true; the input reads as it did. -/
def fnExactFeedFlockUptoRow : OpenClaim := { program := "ytbjcajhbhicokaa", sum := "2a4cd8541f7fca93206357f2ccea5f52f9bdc9c90f5a9db57b87a33ce10b4714", func := "loop.example/g01338/laws.FnExactFeedFlock", spec := "fnExactFeedFlock", unfollowed := true, recurses := true, apart := false, narrowed := true }
def FnExactFeedFlockUptoSaid : Prop := fnExactFeedFlockUptoRow.holds Try.pinned (OpenSpec.upto fnExactFeedFlockSpec)

/-- 'laws.FnExactStillHungry', WHERE WHAT IT READS IS OF BULK AT MOST 1048576: true; the input reads as it did. -/
def fnExactStillHungryUptoRow : OpenClaim := { program := "ytbjcajhbhicokaa", sum := "2a4cd8541f7fca93206357f2ccea5f52f9bdc9c90f5a9db57b87a33ce10b4714", func := "loop.example/g01338/laws.FnExactStillHungry", spec := "fnExactStillHungry", unfollowed := true, recurses := true, apart := false, narrowed := true }
def FnExactStillHungryUptoSaid : Prop := fnExactStillHungryUptoRow.holds Try.pinned (OpenSpec.upto fnExactStillHungrySpec)

/-- 'laws.FnExactFeedAll', WHERE WHAT IT READS IS OF BULK AT MOST 1048576: true; the input reads as it did. -/
def fnExactFeedAllUptoRow : OpenClaim := { program := "ytbjcajhbhicokaa", sum := "2a4cd8541f7fca93206357f2ccea5f52f9bdc9c90f5a9db57b87a33ce10b4714", func := "loop.example/g01338/laws.FnExactFeedAll", spec := "fnExactFeedAll", unfollowed := true, recurses := true, apart := false, narrowed := true }
def FnExactFeedAllUptoSaid : Prop := fnExactFeedAllUptoRow.holds Try.pinned (OpenSpec.upto fnExactFeedAllSpec)

/-- 'laws.FnExactFeedDays', WHERE WHAT IT READS IS OF BULK AT MOST 1048576: true; the input reads as it did. -/
def fnExactFeedDaysUptoRow : OpenClaim := { program := "ytbjcajhbhicokaa", sum := "2a4cd8541f7fca93206357f2ccea5f52f9bdc9c90f5a9db57b87a33ce10b4714", func := "loop.example/g01338/laws.FnExactFeedDays", spec := "fnExactFeedDays", unfollowed := true, recurses := true, apart := false, narrowed := true }
def FnExactFeedDaysUptoSaid : Prop := fnExactFeedDaysUptoRow.holds Try.pinned (OpenSpec.upto fnExactFeedDaysSpec)

end Rows
end Go.Proofs.Ytbjcajhbhicokaa
