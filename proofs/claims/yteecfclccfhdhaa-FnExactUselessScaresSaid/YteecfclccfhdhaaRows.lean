/-
  No cell of these rows narrows 'for every input' (looked for: loops, veiled, ifaces, maps, wideKeys, modest, calm, conditions, laid).
  DERIVED. THE GIVEN ROWS OF THIS SEAT. 11 by the template 'for every input the law returns true; each argument reads behind the call as it read before'; 0 by the template 'total and deterministic' (their statements: YteecfclccfhdhaaTotals.lean).
  GIVEN WITH THE SEED: the statements are not yours to turn. If you find one false, say at which input.
  Laid BY PROGRAM, IN A SANDBOX (cutbox-rows.mjs): the forced cells as the released guide's own fill.sh prints them over the translation 05f9ed3e264debe3… (all of the seat's roots in one cut). By AI agents, Wed Nov 11 2026. No macro, syntax, notation, axiom, sorry.
-/
import Derived.Test.YteecfclccfhdhaaChecked
import GoSem.Claim
import GoSem.ClaimJoined
import GoSem.ClaimMapViews
import Derived.JoinedTies
import Derived.KernelRfl
namespace Go.Proofs.Yteecfclccfhdhaa
/- THE CELL 'sum', in the pinned program and in every row, IS THE sha256 OF THE DUMP (.gsa) THAT YteecfclccfhdhaaProg.lean LOADS. Nothing in Lean hashes anything: it is a label: what it is worth is what the hold of that sum in a sandbox is worth. -/
noncomputable def Try.pinned : Pinned := { name := "yteecfclccfhdhaa", sum := "05f9ed3e264debe359925b6a05d39301793ca15124a18b9ba742bb86039c2dbf", checked := Try.checked }
namespace Rows
def none {H : Type} : Left H := { results := [], args := [] }

/-- 'laws.FnExactFearOf': WHATEVER THE INPUT: true; the input reads as it did. -/
def fnExactFearOfSpec : ChangeSpec := { name := "fnExactFearOf", fn := fun _ => fun
  | [d1, d2, d3] => { results := [.lit (.bool true)], args := [d1, d2, d3] }
  | _ => none }
def fnExactFearOfRow : OpenClaim := { program := "yteecfclccfhdhaa", sum := "05f9ed3e264debe359925b6a05d39301793ca15124a18b9ba742bb86039c2dbf", func := "loop.example/g01338/laws.FnExactFearOf", spec := "fnExactFearOf", unfollowed := true, recurses := true, apart := false }
def FnExactFearOfSaid : Prop := fnExactFearOfRow.holds Try.pinned (OpenSpec.ofChange fnExactFearOfSpec)

/-- ITS FALSE NEIGHBOUR: 'it returns false'. Refute it at one input. -/
def fnExactFearOfWrong : ChangeSpec := { name := "fnExactFearOf", fn := fun _ => fun
  | [d1, d2, d3] => { results := [.lit (.bool false)], args := [d1, d2, d3] }
  | _ => none }
def FnExactFearOfWrongFalsely : Prop := fnExactFearOfRow.holds Try.pinned (OpenSpec.ofChange fnExactFearOfWrong)

/-- 'laws.FnExactFearMap': WHATEVER THE INPUT: true; the input reads as it did. -/
def fnExactFearMapSpec : ChangeSpec := { name := "fnExactFearMap", fn := fun _ => fun
  | [d1, d2] => { results := [.lit (.bool true)], args := [d1, d2] }
  | _ => none }
def fnExactFearMapRow : OpenClaim := { program := "yteecfclccfhdhaa", sum := "05f9ed3e264debe359925b6a05d39301793ca15124a18b9ba742bb86039c2dbf", func := "loop.example/g01338/laws.FnExactFearMap", spec := "fnExactFearMap", unfollowed := true, recurses := true, apart := false }
def FnExactFearMapSaid : Prop := fnExactFearMapRow.holds Try.pinned (OpenSpec.ofChange fnExactFearMapSpec)

/-- ITS FALSE NEIGHBOUR: 'it returns false'. Refute it at one input. -/
def fnExactFearMapWrong : ChangeSpec := { name := "fnExactFearMap", fn := fun _ => fun
  | [d1, d2] => { results := [.lit (.bool false)], args := [d1, d2] }
  | _ => none }
def FnExactFearMapWrongFalsely : Prop := fnExactFearMapRow.holds Try.pinned (OpenSpec.ofChange fnExactFearMapWrong)

/-- 'laws.FnExactAgeScares': WHATEVER THE INPUT: true; the input reads as it did. -/
def fnExactAgeScaresSpec : ChangeSpec := { name := "fnExactAgeScares", fn := fun _ => fun
  | [d1, d2, d3] => { results := [.lit (.bool true)], args := [d1, d2, d3] }
  | _ => none }
def fnExactAgeScaresRow : OpenClaim := { program := "yteecfclccfhdhaa", sum := "05f9ed3e264debe359925b6a05d39301793ca15124a18b9ba742bb86039c2dbf", func := "loop.example/g01338/laws.FnExactAgeScares", spec := "fnExactAgeScares", unfollowed := true, recurses := true, apart := false }
def FnExactAgeScaresSaid : Prop := fnExactAgeScaresRow.holds Try.pinned (OpenSpec.ofChange fnExactAgeScaresSpec)

/-- ITS FALSE NEIGHBOUR: 'it returns false'. Refute it at one input. -/
def fnExactAgeScaresWrong : ChangeSpec := { name := "fnExactAgeScares", fn := fun _ => fun
  | [d1, d2, d3] => { results := [.lit (.bool false)], args := [d1, d2, d3] }
  | _ => none }
def FnExactAgeScaresWrongFalsely : Prop := fnExactAgeScaresRow.holds Try.pinned (OpenSpec.ofChange fnExactAgeScaresWrong)

/-- 'laws.FnExactAddScare': WHATEVER THE INPUT: true; the input reads as it did. -/
def fnExactAddScareSpec : ChangeSpec := { name := "fnExactAddScare", fn := fun _ => fun
  | [d1, d2, d3, d4] => { results := [.lit (.bool true)], args := [d1, d2, d3, d4] }
  | _ => none }
def fnExactAddScareRow : OpenClaim := { program := "yteecfclccfhdhaa", sum := "05f9ed3e264debe359925b6a05d39301793ca15124a18b9ba742bb86039c2dbf", func := "loop.example/g01338/laws.FnExactAddScare", spec := "fnExactAddScare", unfollowed := true, recurses := true, apart := false }
def FnExactAddScareSaid : Prop := fnExactAddScareRow.holds Try.pinned (OpenSpec.ofChange fnExactAddScareSpec)

/-- ITS FALSE NEIGHBOUR: 'it returns false'. Refute it at one input. -/
def fnExactAddScareWrong : ChangeSpec := { name := "fnExactAddScare", fn := fun _ => fun
  | [d1, d2, d3, d4] => { results := [.lit (.bool false)], args := [d1, d2, d3, d4] }
  | _ => none }
def FnExactAddScareWrongFalsely : Prop := fnExactAddScareRow.holds Try.pinned (OpenSpec.ofChange fnExactAddScareWrong)

/-- 'laws.FnExactMoveScare': WHATEVER THE INPUT: true; the input reads as it did. -/
def fnExactMoveScareSpec : ChangeSpec := { name := "fnExactMoveScare", fn := fun _ => fun
  | [d1, d2, d3, d4] => { results := [.lit (.bool true)], args := [d1, d2, d3, d4] }
  | _ => none }
def fnExactMoveScareRow : OpenClaim := { program := "yteecfclccfhdhaa", sum := "05f9ed3e264debe359925b6a05d39301793ca15124a18b9ba742bb86039c2dbf", func := "loop.example/g01338/laws.FnExactMoveScare", spec := "fnExactMoveScare", unfollowed := true, recurses := true, apart := false }
def FnExactMoveScareSaid : Prop := fnExactMoveScareRow.holds Try.pinned (OpenSpec.ofChange fnExactMoveScareSpec)

/-- ITS FALSE NEIGHBOUR: 'it returns false'. Refute it at one input. -/
def fnExactMoveScareWrong : ChangeSpec := { name := "fnExactMoveScare", fn := fun _ => fun
  | [d1, d2, d3, d4] => { results := [.lit (.bool false)], args := [d1, d2, d3, d4] }
  | _ => none }
def FnExactMoveScareWrongFalsely : Prop := fnExactMoveScareRow.holds Try.pinned (OpenSpec.ofChange fnExactMoveScareWrong)

/-- 'laws.FnExactDaysSafe': WHATEVER THE INPUT: true; the input reads as it did. -/
def fnExactDaysSafeSpec : ChangeSpec := { name := "fnExactDaysSafe", fn := fun _ => fun
  | [d1, d2, d3, d4] => { results := [.lit (.bool true)], args := [d1, d2, d3, d4] }
  | _ => none }
def fnExactDaysSafeRow : OpenClaim := { program := "yteecfclccfhdhaa", sum := "05f9ed3e264debe359925b6a05d39301793ca15124a18b9ba742bb86039c2dbf", func := "loop.example/g01338/laws.FnExactDaysSafe", spec := "fnExactDaysSafe", unfollowed := true, recurses := true, apart := false }
def FnExactDaysSafeSaid : Prop := fnExactDaysSafeRow.holds Try.pinned (OpenSpec.ofChange fnExactDaysSafeSpec)

/-- ITS FALSE NEIGHBOUR: 'it returns false'. Refute it at one input. -/
def fnExactDaysSafeWrong : ChangeSpec := { name := "fnExactDaysSafe", fn := fun _ => fun
  | [d1, d2, d3, d4] => { results := [.lit (.bool false)], args := [d1, d2, d3, d4] }
  | _ => none }
def FnExactDaysSafeWrongFalsely : Prop := fnExactDaysSafeRow.holds Try.pinned (OpenSpec.ofChange fnExactDaysSafeWrong)

/-- 'laws.FnExactSafeCells': WHATEVER THE INPUT: true; the input reads as it did. -/
def fnExactSafeCellsSpec : ChangeSpec := { name := "fnExactSafeCells", fn := fun _ => fun
  | [d1, d2, d3] => { results := [.lit (.bool true)], args := [d1, d2, d3] }
  | _ => none }
def fnExactSafeCellsRow : OpenClaim := { program := "yteecfclccfhdhaa", sum := "05f9ed3e264debe359925b6a05d39301793ca15124a18b9ba742bb86039c2dbf", func := "loop.example/g01338/laws.FnExactSafeCells", spec := "fnExactSafeCells", unfollowed := true, recurses := true, apart := false }
def FnExactSafeCellsSaid : Prop := fnExactSafeCellsRow.holds Try.pinned (OpenSpec.ofChange fnExactSafeCellsSpec)

/-- ITS FALSE NEIGHBOUR: 'it returns false'. Refute it at one input. -/
def fnExactSafeCellsWrong : ChangeSpec := { name := "fnExactSafeCells", fn := fun _ => fun
  | [d1, d2, d3] => { results := [.lit (.bool false)], args := [d1, d2, d3] }
  | _ => none }
def FnExactSafeCellsWrongFalsely : Prop := fnExactSafeCellsRow.holds Try.pinned (OpenSpec.ofChange fnExactSafeCellsWrong)

/-- 'laws.FnExactSafeFrom': WHATEVER THE INPUT: true; the input reads as it did. -/
def fnExactSafeFromSpec : ChangeSpec := { name := "fnExactSafeFrom", fn := fun _ => fun
  | [d1, d2, d3] => { results := [.lit (.bool true)], args := [d1, d2, d3] }
  | _ => none }
def fnExactSafeFromRow : OpenClaim := { program := "yteecfclccfhdhaa", sum := "05f9ed3e264debe359925b6a05d39301793ca15124a18b9ba742bb86039c2dbf", func := "loop.example/g01338/laws.FnExactSafeFrom", spec := "fnExactSafeFrom", unfollowed := true, recurses := true, apart := false }
def FnExactSafeFromSaid : Prop := fnExactSafeFromRow.holds Try.pinned (OpenSpec.ofChange fnExactSafeFromSpec)

/-- ITS FALSE NEIGHBOUR: 'it returns false'. Refute it at one input. -/
def fnExactSafeFromWrong : ChangeSpec := { name := "fnExactSafeFrom", fn := fun _ => fun
  | [d1, d2, d3] => { results := [.lit (.bool false)], args := [d1, d2, d3] }
  | _ => none }
def FnExactSafeFromWrongFalsely : Prop := fnExactSafeFromRow.holds Try.pinned (OpenSpec.ofChange fnExactSafeFromWrong)

/-- 'laws.FnExactUselessScares': WHATEVER THE INPUT: true; the input reads as it did. -/
def fnExactUselessScaresSpec : ChangeSpec := { name := "fnExactUselessScares", fn := fun _ => fun
  | [d1, d2, d3] => { results := [.lit (.bool true)], args := [d1, d2, d3] }
  | _ => none }
def fnExactUselessScaresRow : OpenClaim := { program := "yteecfclccfhdhaa", sum := "05f9ed3e264debe359925b6a05d39301793ca15124a18b9ba742bb86039c2dbf", func := "loop.example/g01338/laws.FnExactUselessScares", spec := "fnExactUselessScares", unfollowed := true, recurses := true, apart := false }
def FnExactUselessScaresSaid : Prop := fnExactUselessScaresRow.holds Try.pinned (OpenSpec.ofChange fnExactUselessScaresSpec)

/-- ITS FALSE NEIGHBOUR: 'it returns false'. Refute it at one input. -/
def fnExactUselessScaresWrong : ChangeSpec := { name := "fnExactUselessScares", fn := fun _ => fun
  | [d1, d2, d3] => { results := [.lit (.bool false)], args := [d1, d2, d3] }
  | _ => none }
def FnExactUselessScaresWrongFalsely : Prop := fnExactUselessScaresRow.holds Try.pinned (OpenSpec.ofChange fnExactUselessScaresWrong)

/-- 'laws.FnExactLongestSafe': WHATEVER THE INPUT: true; the input reads as it did. -/
def fnExactLongestSafeSpec : ChangeSpec := { name := "fnExactLongestSafe", fn := fun _ => fun
  | [d1, d2, d3, d4] => { results := [.lit (.bool true)], args := [d1, d2, d3, d4] }
  | _ => none }
def fnExactLongestSafeRow : OpenClaim := { program := "yteecfclccfhdhaa", sum := "05f9ed3e264debe359925b6a05d39301793ca15124a18b9ba742bb86039c2dbf", func := "loop.example/g01338/laws.FnExactLongestSafe", spec := "fnExactLongestSafe", unfollowed := true, recurses := true, apart := false }
def FnExactLongestSafeSaid : Prop := fnExactLongestSafeRow.holds Try.pinned (OpenSpec.ofChange fnExactLongestSafeSpec)

/-- ITS FALSE NEIGHBOUR: 'it returns false'. Refute it at one input. -/
def fnExactLongestSafeWrong : ChangeSpec := { name := "fnExactLongestSafe", fn := fun _ => fun
  | [d1, d2, d3, d4] => { results := [.lit (.bool false)], args := [d1, d2, d3, d4] }
  | _ => none }
def FnExactLongestSafeWrongFalsely : Prop := fnExactLongestSafeRow.holds Try.pinned (OpenSpec.ofChange fnExactLongestSafeWrong)

/-- 'laws.FnExactReplayDiary': WHATEVER THE INPUT: true; the input reads as it did. -/
def fnExactReplayDiarySpec : ChangeSpec := { name := "fnExactReplayDiary", fn := fun _ => fun
  | [d1, d2] => { results := [.lit (.bool true)], args := [d1, d2] }
  | _ => none }
def fnExactReplayDiaryRow : OpenClaim := { program := "yteecfclccfhdhaa", sum := "05f9ed3e264debe359925b6a05d39301793ca15124a18b9ba742bb86039c2dbf", func := "loop.example/g01338/laws.FnExactReplayDiary", spec := "fnExactReplayDiary", apart := false }
def FnExactReplayDiarySaid : Prop := fnExactReplayDiaryRow.holds Try.pinned (OpenSpec.ofChange fnExactReplayDiarySpec)

/-- ITS FALSE NEIGHBOUR: 'it returns false'. Refute it at one input. -/
def fnExactReplayDiaryWrong : ChangeSpec := { name := "fnExactReplayDiary", fn := fun _ => fun
  | [d1, d2] => { results := [.lit (.bool false)], args := [d1, d2] }
  | _ => none }
def FnExactReplayDiaryWrongFalsely : Prop := fnExactReplayDiaryRow.holds Try.pinned (OpenSpec.ofChange fnExactReplayDiaryWrong)

/- THE SECOND FORM. 'bulk': how many values and letters a reading holds, each counted each time it is reached (what is shared counts as often as it is met; a slice's spare places count too). A statement '..UptoSaid' is the law's where the arguments, and the package variables that the reading takes, are together of bulk at most 1048576: NARROWER than '..Said'. Prove '..Said' where nothing that the law and all that it calls make is longer than what came in: it says more and counts as full. Else prove '..UptoSaid'. A law counts once. -/
mutual
def uptoBulk {H : Type} : DataW H → Nat
  | .lit (.string bytes) => bytes.length + 1
  | .lit _ => 1
  | .nil => 1
  | .ptr d => uptoBulk d + 1
  | .slice elems spare => uptoBulkAll elems + uptoBulkAll spare + 1
  | .agg parts => uptoBulkAll parts + 1
  | .iface _ d => uptoBulk d + 1
  | .map entries => uptoBulkEntries entries + 1
  | .held _ => 1
def uptoBulkAll {H : Type} : List (DataW H) → Nat
  | [] => 0
  | d :: r => uptoBulk d + uptoBulkAll r
def uptoBulkEntries {H : Type} : List (Lit × DataW H) → Nat
  | [] => 0
  | x :: r => uptoBulkEntry x + uptoBulkEntries r
def uptoBulkEntry {H : Type} : Lit × DataW H → Nat
  | (.string bytes, d) => bytes.length + uptoBulk d + 1
  | (_, d) => uptoBulk d + 1
 end
def uptoSmall : (H : Type) → List (DataW H) → Bool := fun _ ds => decide (uptoBulkAll ds ≤ 1048576)
def OpenSpec.upto (s : _root_.Go.ChangeSpec) : _root_.Go.OpenSpec := { _root_.Go.OpenSpec.ofChange s with cond := some uptoSmall }

/-- 'laws.FnExactFearOf', WHERE WHAT IT READS IS OF BULK AT MOST 1048576: true; the input reads as it did. -/
def fnExactFearOfUptoRow : OpenClaim := { program := "yteecfclccfhdhaa", sum := "05f9ed3e264debe359925b6a05d39301793ca15124a18b9ba742bb86039c2dbf", func := "loop.example/g01338/laws.FnExactFearOf", spec := "fnExactFearOf", unfollowed := true, recurses := true, apart := false, narrowed := true }
def FnExactFearOfUptoSaid : Prop := fnExactFearOfUptoRow.holds Try.pinned (OpenSpec.upto fnExactFearOfSpec)

/-- 'laws.FnExactFearMap', WHERE WHAT IT READS IS OF BULK AT MOST 1048576: true; the input reads as it did. -/
def fnExactFearMapUptoRow : OpenClaim := { program := "yteecfclccfhdhaa", sum := "05f9ed3e264debe359925b6a05d39301793ca15124a18b9ba742bb86039c2dbf", func := "loop.example/g01338/laws.FnExactFearMap", spec := "fnExactFearMap", unfollowed := true, recurses := true, apart := false, narrowed := true }
def FnExactFearMapUptoSaid : Prop := fnExactFearMapUptoRow.holds Try.pinned (OpenSpec.upto fnExactFearMapSpec)

/-- 'laws.FnExactAgeScares', WHERE WHAT IT READS IS OF BULK AT MOST 1048576: true; the input reads as it did. -/
def fnExactAgeScaresUptoRow : OpenClaim := { program := "yteecfclccfhdhaa", sum := "05f9ed3e264debe359925b6a05d39301793ca15124a18b9ba742bb86039c2dbf", func := "loop.example/g01338/laws.FnExactAgeScares", spec := "fnExactAgeScares", unfollowed := true, recurses := true, apart := false, narrowed := true }
def FnExactAgeScaresUptoSaid : Prop := fnExactAgeScaresUptoRow.holds Try.pinned (OpenSpec.upto fnExactAgeScaresSpec)

/-- 'laws.FnExactAddScare', WHERE WHAT IT READS IS OF BULK AT MOST 1048576: true; the input reads as it did. -/
def fnExactAddScareUptoRow : OpenClaim := { program := "yteecfclccfhdhaa", sum := "05f9ed3e264debe359925b6a05d39301793ca15124a18b9ba742bb86039c2dbf", func := "loop.example/g01338/laws.FnExactAddScare", spec := "fnExactAddScare", unfollowed := true, recurses := true, apart := false, narrowed := true }
def FnExactAddScareUptoSaid : Prop := fnExactAddScareUptoRow.holds Try.pinned (OpenSpec.upto fnExactAddScareSpec)

/-- 'laws.FnExactMoveScare', WHERE WHAT IT READS IS OF BULK AT MOST 1048576: true; the input reads as it did. -/
def fnExactMoveScareUptoRow : OpenClaim := { program := "yteecfclccfhdhaa", sum := "05f9ed3e264debe359925b6a05d39301793ca15124a18b9ba742bb86039c2dbf", func := "loop.example/g01338/laws.FnExactMoveScare", spec := "fnExactMoveScare", unfollowed := true, recurses := true, apart := false, narrowed := true }
def FnExactMoveScareUptoSaid : Prop := fnExactMoveScareUptoRow.holds Try.pinned (OpenSpec.upto fnExactMoveScareSpec)

/-- 'laws.FnExactDaysSafe', WHERE WHAT IT READS IS OF BULK AT MOST 1048576: true; the input reads as it did. -/
def fnExactDaysSafeUptoRow : OpenClaim := { program := "yteecfclccfhdhaa", sum := "05f9ed3e264debe359925b6a05d39301793ca15124a18b9ba742bb86039c2dbf", func := "loop.example/g01338/laws.FnExactDaysSafe", spec := "fnExactDaysSafe", unfollowed := true, recurses := true, apart := false, narrowed := true }
def FnExactDaysSafeUptoSaid : Prop := fnExactDaysSafeUptoRow.holds Try.pinned (OpenSpec.upto fnExactDaysSafeSpec)

/-- 'laws.FnExactSafeCells', WHERE WHAT IT READS IS OF BULK AT MOST 1048576: true; the input reads as it did. -/
def fnExactSafeCellsUptoRow : OpenClaim := { program := "yteecfclccfhdhaa", sum := "05f9ed3e264debe359925b6a05d39301793ca15124a18b9ba742bb86039c2dbf", func := "loop.example/g01338/laws.FnExactSafeCells", spec := "fnExactSafeCells", unfollowed := true, recurses := true, apart := false, narrowed := true }
def FnExactSafeCellsUptoSaid : Prop := fnExactSafeCellsUptoRow.holds Try.pinned (OpenSpec.upto fnExactSafeCellsSpec)

/-- 'laws.FnExactSafeFrom', WHERE WHAT IT READS IS OF BULK AT MOST 1048576: true; the input reads as it did. -/
def fnExactSafeFromUptoRow : OpenClaim := { program := "yteecfclccfhdhaa", sum := "05f9ed3e264debe359925b6a05d39301793ca15124a18b9ba742bb86039c2dbf", func := "loop.example/g01338/laws.FnExactSafeFrom", spec := "fnExactSafeFrom", unfollowed := true, recurses := true, apart := false, narrowed := true }
def FnExactSafeFromUptoSaid : Prop := fnExactSafeFromUptoRow.holds Try.pinned (OpenSpec.upto fnExactSafeFromSpec)

/-- 'laws.FnExactUselessScares', WHERE WHAT IT READS IS OF BULK AT MOST 1048576: true; the input reads as it did. -/
def fnExactUselessScaresUptoRow : OpenClaim := { program := "yteecfclccfhdhaa", sum := "05f9ed3e264debe359925b6a05d39301793ca15124a18b9ba742bb86039c2dbf", func := "loop.example/g01338/laws.FnExactUselessScares", spec := "fnExactUselessScares", unfollowed := true, recurses := true, apart := false, narrowed := true }
def FnExactUselessScaresUptoSaid : Prop := fnExactUselessScaresUptoRow.holds Try.pinned (OpenSpec.upto fnExactUselessScaresSpec)

/-- 'laws.FnExactLongestSafe', WHERE WHAT IT READS IS OF BULK AT MOST 1048576: true; the input reads as it did. -/
def fnExactLongestSafeUptoRow : OpenClaim := { program := "yteecfclccfhdhaa", sum := "05f9ed3e264debe359925b6a05d39301793ca15124a18b9ba742bb86039c2dbf", func := "loop.example/g01338/laws.FnExactLongestSafe", spec := "fnExactLongestSafe", unfollowed := true, recurses := true, apart := false, narrowed := true }
def FnExactLongestSafeUptoSaid : Prop := fnExactLongestSafeUptoRow.holds Try.pinned (OpenSpec.upto fnExactLongestSafeSpec)

/-- 'laws.FnExactReplayDiary', WHERE WHAT IT READS IS OF BULK AT MOST 1048576: true; the input reads as it did. -/
def fnExactReplayDiaryUptoRow : OpenClaim := { program := "yteecfclccfhdhaa", sum := "05f9ed3e264debe359925b6a05d39301793ca15124a18b9ba742bb86039c2dbf", func := "loop.example/g01338/laws.FnExactReplayDiary", spec := "fnExactReplayDiary", apart := false, narrowed := true }
def FnExactReplayDiaryUptoSaid : Prop := fnExactReplayDiaryUptoRow.holds Try.pinned (OpenSpec.upto fnExactReplayDiarySpec)

end Rows
end Go.Proofs.Yteecfclccfhdhaa
