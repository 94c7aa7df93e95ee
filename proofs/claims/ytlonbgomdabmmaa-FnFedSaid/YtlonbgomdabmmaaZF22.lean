/- The law of feeding holds for all arguments: seeds that are eaten and seeds that are left are those that were, no flock eats more than its hunger, and days one by one are those of a number of days. No condition. -/
import Derived.Test.YtlonbgomdabmmaaZF21
import Derived.Test.YtlonbgomdabmmaaZF00
import Derived.Test.YtlonbgomdabmmaaZF01
import Derived.Test.YtlonbgomdabmmaaZF02
import Derived.Test.YtlonbgomdabmmaaRows
import Derived.ProofKit
import Derived.Below
namespace Go.Proofs.Ytlonbgomdabmmaa
set_option linter.unusedSimpArgs false
set_option linter.unusedVariables false
open Go.RowKit
attribute [local go_sem] cell?_mk frozen?_mk

set_option maxRecDepth 100000 in
set_option maxHeartbeats 1000000 in
theorem lawFed_any (A B : Option Addr) (na nb : Nat) (bs cs : List Int) (hb : ∀ x ∈ bs, U8.ok x) (hc : ∀ x ∈ cs, U8.ok x) (w : World) (hs : Sl w 1 A bs.length (flat oneB bs)) (ht : Sl w 1 B cs.length (flat oneB cs)) :
    Calls Try.prog 3 #[.slice A bs.length na, .slice B cs.length nb] w fun e w' => e = .returned (.bool true) ∧ Mem w w' [] := by
  by_cases hl : bs.length ≤ 3000 ∧ cs.length ≤ 3000
  · exact FnFed_any A B na nb bs cs hb hc hl.1 hl.2 w hs ht
  · have M := Lib.hid (Mem.start w)
    have G1 := Lib.hid (show (decide (3000 < bs.length) || decide (3000 < cs.length)) = true by
      rcases Nat.lt_or_ge 3000 bs.length with h | h
      · rw [decide_eq_true h]; rfl
      · rw [decide_eq_true (show 3000 < cs.length by omega), Bool.or_true])
    clear hs ht hb hc hl
    go_enter Try.func3, Try.ntmps3
    go_wp2_with (first
      | (go_at_call 4; go_must (refine (a2Long_any A B bs.length cs.length na nb _).mono ?_); rintro e w_ ⟨rfl, rfl⟩; rw [G1.out])
      )
    go_ret
    exact ⟨rfl, M.out⟩
end Go.Proofs.Ytlonbgomdabmmaa
namespace Go.Proofs.Ytlonbgomdabmmaa
set_option linter.unusedSimpArgs false
set_option linter.unusedVariables false
open Go.RowKit
structure Entry where
  what : Int
  cell : Int
  amount : Int
  deriving DecidableEq
def Entry.vals (x : Entry) : List Value := [.int .i8 x.what, .int .i16 x.cell, .int .i16 x.amount]
theorem Entry.vl (x : Entry) : x.vals.length = 3 := rfl
theorem Entry.one (x : Entry) : x.vals.toArray.all (·.oneCell') = true := by simp [Entry.vals, Value.oneCell']
def Entry.z : Entry := ⟨0, 0, 0⟩
end Go.Proofs.Ytlonbgomdabmmaa
namespace Go.Proofs.Ytlonbgomdabmmaa
set_option linter.unusedSimpArgs false
set_option linter.unusedVariables false
open Go.RowKit
attribute [local go_sem] cell?_mk frozen?_mk
def Entry.plain (x : Entry) : Bool := inB x.what 0 3 && (inB x.cell 0 99 && inB x.amount 1 1000)
/-- An entry as Go can hold it. -/
structure Entry.ok (x : Entry) : Prop where
  a : -128 ≤ x.what ∧ x.what ≤ 127
  b : -32768 ≤ x.cell ∧ x.cell ≤ 32767
  c : -32768 ≤ x.amount ∧ x.amount ≤ 32767
/-- The code of an entry that is made. -/
def Fld.code (F : Fld) (x : Entry) : Int :=
  if (x.plain && F.has x.cell) = false then 2 else if F.kind x.cell.toNat ≠ 0 then 4 else
  if x.what = 0 then (if 1000 < F.seed x.cell.toNat + x.amount then 3 else 0) else (if F.seed x.cell.toNat < x.amount then 8 else 0)
/-- The field behind an entry that has been made. -/
def Fld.made (F : Fld) (x : Entry) : Fld :=
  F.withSeed x.cell.toNat (if x.what = 0 then F.seed x.cell.toNat + x.amount else F.seed x.cell.toNat - x.amount)
def Fld.after (F : Fld) (x : Entry) : Fld := if F.code x = 0 then F.made x else F

/-- What 'apply' leaves: its code, and the field in its place. -/
def Made (F : Fld) (x : Entry) (b : Nat) (w : World) (e : Ending) (w' : World) : Prop :=
  e = .returned (.int .i64 (F.code x)) ∧ Blk w' b 29 (F.after x).cells ∧ w.grownBy w' (some b)

end Go.Proofs.Ytlonbgomdabmmaa
namespace Go.Proofs.Ytlonbgomdabmmaa
set_option linter.unusedSimpArgs false
set_option linter.unusedVariables false
open Go.ChangeShapes Go.WideShapes Go.RowKit Go.Deep

def Fld.ks : List IntKind := .i8 :: .i8 :: (List.replicate 100 .u8 ++ List.replicate 100 .i16)
theorem Fld.of_conf {cs : List Value} (h : Conf Fld.ks cs) : ∃ F : Fld, F.ok ∧ cs = F.list := by
  obtain ⟨a, r, rfl, wa, h⟩ := h.cons
  obtain ⟨b, r, rfl, wb, h⟩ := h.cons
  obtain ⟨xs, r, rfl, lx, wx, h⟩ := h.reps
  obtain ⟨ys, r, rfl, ly, wy, h⟩ := Conf.reps (n := 100) (ks := []) (by simpa using h)
  obtain rfl := h.nil_eq
  have ha := bounds_i8 wa
  have hb := bounds_i8 wb
  exact ⟨⟨a, b, xs, ys⟩, ⟨⟨lx, ly⟩, ha.1, ha.2, hb.1, hb.2, fun x hx => bounds_u8 (wx x hx), fun x hx => bounds_i16 (wy x hx)⟩, by simp [Fld.list]⟩
def Entry.ks : List IntKind := [.i8, .i16, .i16]
theorem Entry.of_conf (cs : List Value) (h : Conf Entry.ks cs) : ∃ x : Entry, x.ok ∧ x.vals = cs := by
  obtain ⟨a, r, rfl, wa, h⟩ := h.cons
  obtain ⟨b, r, rfl, wb, h⟩ := h.cons
  obtain ⟨c, r, rfl, wc, h⟩ := h.cons
  obtain rfl := h.nil_eq
  exact ⟨⟨a, b, c⟩, ⟨bounds_i8 wa, bounds_i16 wb, bounds_i16 wc⟩, rfl⟩
end Go.Proofs.Ytlonbgomdabmmaa
namespace Go.Proofs.Ytlonbgomdabmmaa
set_option linter.unusedSimpArgs false
set_option linter.unusedVariables false
open Go.ChangeShapes Go.WideShapes Go.ChangeAt Go.RowKit
set_option linter.unusedVariables false

theorem own : ownKnob Try.prog.godebug = none := by kernel_rfl
theorem laidOut : laidOutB Try.prog = true := by kernel_rfl
set_option maxRecDepth 100000 in
theorem FnFed_lifted (os : Os) (started : os.Started) (H : Type) (enc : TypeId × Value → H) :
    ReturnsInHanded {} Try.checked os 3 .any (Rows.fnFedSpec.pre6 enc Try.prog Try.f3 Rows.fnFedRow.domain false) (Rows.fnFedSpec.post enc Try.prog Try.f3 false true false false) := by
  refine returnsInHanded_of_change (C := Try.checked) own started (by kernel_rfl) Try.func3
    (ChangeSpec.witness6 (enc := enc) (C := Try.checked) false ⟨#[], #[.slice none 0 0, .slice none 0 0], []⟩ 512 (by kernel_rfl) (by kernel_rfl) (by kernel_rfl) (by kernel_rfl)) ?_
  intro W base args ds gs before hval0 hW hcnd _
  have hval : ∀ (j : Nat) t v, Try.f3.params[j]? = some t → args[j]? = some v → Value.okWide Try.prog W .any base t v := hval0
  have hW' := hW
  obtain ⟨p, q, hA0, hV, rfl, hfz, hnd⟩ := hW
  have hA : DataW.TrodAll enc Try.prog W 0 (fun _ => true) true Try.f3.params.toList args.toList ds p := hA0
  rw [Try.params3] at hA hval
  obtain ⟨v0, vs0, d0, ds0, p0, q0, hargs, rfl, rfl, h0, r0⟩ := trodAll_cons hA
  obtain ⟨v1, vs1, d1, ds1, p1, q1, rfl, rfl, rfl, h1, r1⟩ := trodAll_cons r0
  obtain ⟨rfl, rfl, rfl⟩ := trodAll_nil r1
  obtain rfl : args = #[v0, v1] := by cases args; simp_all
  obtain ⟨rfl, rfl⟩ := trodVars_none hV
  have k0 := h0
  have lt0 : ∀ x ∈ p0, x.block < W.heap.size := by obtain ⟨m, hm⟩ := k0; exact DataW.trod_lt m _ _ _ hm
  have k1 := h1
  have lt1 : ∀ x ∈ p1, x.block < W.heap.size := by obtain ⟨m, hm⟩ := k1; exact DataW.trod_lt m _ _ _ hm
  obtain ⟨A0, c0, a0, rfl, hl0, hm0, ok0, s0⟩ := open_sl (d0 := 6) (ks := U8.ks) Try.underlying22 (by kernel_rfl) (by kernel_rfl) (by decide) U8.vals U8.ok U8.vl U8.of_conf (hval 0 22 v0 rfl rfl) h0
  obtain ⟨A1, c1, a1, rfl, hl1, hm1, ok1, s1⟩ := open_sl (d0 := 6) (ks := U8.ks) Try.underlying22 (by kernel_rfl) (by kernel_rfl) (by decide) U8.vals U8.ok U8.vl U8.of_conf (hval 1 22 v1 rfl rfl) h1
  clear hA0 hval0
  refine (lawFed_any A0 A1 c0 c1 a0 a1 ok0 ok1 W s0 s1).mono fun e W' ⟨he, mem⟩ => ?_
  subst he
  have bel := mem.below
  exact ⟨_, rfl, _, _, _, [], _, [], hW', trodAll_mk1 (shut_bool Try.underlying4 _), (trodAll_cons_mk (Below.trod laidOut (by kernel_rfl) (of_decide_eq_true (by kernel_rfl)) k0 bel lt0) (trodAll_cons_mk (Below.trod laidOut (by kernel_rfl) (of_decide_eq_true (by kernel_rfl)) k1 bel lt1) (trodAll_mk0))), rfl, bel.frame _, fun h => by cases h⟩
theorem FnFed_over : Rows.fnFedRow.holds Try.pinned (OpenSpec.ofChange Rows.fnFedSpec) :=
  OpenClaim.holds_of_wide 3 Try.f3 rfl rfl rfl rfl rfl rfl rfl ⟨rfl, rfl, rfl, rfl, rfl⟩ rfl rfl rfl rfl rfl (by kernel_rfl) Try.func3 (by kernel_rfl)
    (of_decide_eq_true (by kernel_rfl)) (by unfold Func.isWrapper; first | (rw [if_pos (by decide +kernel)]; kernel_rfl) | (rw [if_neg (by decide +kernel)]; exact ⟨rfl, rfl⟩))
    (fun os started H enc _ => FnFed_lifted os started H enc)
theorem FnFed_proved : Rows.FnFedSaid := FnFed_over
end Go.Proofs.Ytlonbgomdabmmaa
