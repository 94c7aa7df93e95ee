/- A diary's entries made one after the other: the program's and the reference's walks. -/
import Derived.Test.YtaepgjjmfopiiaaDoorEntry
namespace Go.Proofs.YtaepgjjmfopiiaaDoor
set_option linter.unusedSimpArgs false
set_option linter.unusedVariables false
open Go.RowKit
attribute [local go_sem] cell?_mk frozen?_mk
def Entry.plain (x : Entry) : Bool := inB x.what 0 3 && (inB x.cell 0 99 && inB x.amount 1 1000)
/-- An entry as Go can hold it. -/
structure Entry.ok (x : Entry) : Prop where
  a : -128 ≤ x.what ∧ x.what ≤ 127
  b : -32768 ≤ x.cell ∧ x.cell ≤ 32767
  c : -32768 ≤ x.amount ∧ x.amount ≤ 32767
/-- The code of an entry that is made. -/
def Fld.code (F : Fld) (x : Entry) : Int :=
  if (x.plain && F.has x.cell) = false then 2 else if F.kind x.cell.toNat ≠ 0 then 4 else
  if x.what = 0 then (if 1000 < F.seed x.cell.toNat + x.amount then 3 else 0) else (if F.seed x.cell.toNat < x.amount then 8 else 0)
/-- The field behind an entry that has been made. -/
def Fld.made (F : Fld) (x : Entry) : Fld :=
  F.withSeed x.cell.toNat (if x.what = 0 then F.seed x.cell.toNat + x.amount else F.seed x.cell.toNat - x.amount)
def Fld.after (F : Fld) (x : Entry) : Fld := if F.code x = 0 then F.made x else F

theorem grown_upd {w w1 w2 : World} {b : Nat} (h : Below w.heap.size w w1) (hU : Upd w1 w2 b) : w.grownBy w2 (some b) :=
  ⟨hU.os.trans h.os, hU.tape.trans h.tape, hU.output.trans h.output, by rw [hU.size]; exact h.size, fun k hk hne => (hU.block k (fun e => hne (by rw [e]))).trans (h.block k hk)⟩
theorem grown_below {w w1 : World} {b : Nat} (h : Below w.heap.size w w1) : w.grownBy w1 (some b) :=
  ⟨h.os, h.tape, h.output, h.size, fun k hk _ => h.block k hk⟩

theorem wrap16 {n : Int} (h0 : -32768 ≤ n) (h1 : n ≤ 32767) : IntKind.i16.wrap n = n := IntWalk.i16_in n ⟨h0, h1⟩
end Go.Proofs.YtaepgjjmfopiiaaDoor
