/- The law of the cheapest nets: for every field, all prices and every set of targets and every budget it returns true and changes nothing that was there. No condition. -/
import Derived.Test.YtjkclggdaafmaaaZC02
import Derived.Test.YtjkclggdaafmaaaZC19
import Derived.Test.YtjkclggdaafmaaaRows
import Derived.ProofKit
import Derived.Below
namespace Go.Proofs.Ytjkclggdaafmaaa
set_option linter.unusedSimpArgs false
set_option linter.unusedVariables false
open Go.ChangeShapes Go.WideShapes Go.RowKit Go.Deep

def Fld.ks : List IntKind := .i8 :: .i8 :: (List.replicate 100 .u8 ++ List.replicate 100 .i16)
theorem Fld.of_conf {cs : List Value} (h : Conf Fld.ks cs) : ∃ F : Fld, F.ok ∧ cs = F.list := by
  obtain ⟨a, r, rfl, wa, h⟩ := h.cons
  obtain ⟨b, r, rfl, wb, h⟩ := h.cons
  obtain ⟨xs, r, rfl, lx, wx, h⟩ := h.reps
  obtain ⟨ys, r, rfl, ly, wy, h⟩ := Conf.reps (n := 100) (ks := []) (by simpa using h)
  obtain rfl := h.nil_eq
  have ha := bounds_i8 wa
  have hb := bounds_i8 wb
  exact ⟨⟨a, b, xs, ys⟩, ⟨⟨lx, ly⟩, ha.1, ha.2, hb.1, hb.2, fun x hx => bounds_u8 (wx x hx), fun x hx => bounds_i16 (wy x hx)⟩, by simp [Fld.list]⟩
def Entry.ks : List IntKind := [.i8, .i16, .i16]
theorem Entry.of_conf (cs : List Value) (h : Conf Entry.ks cs) : ∃ x : Entry, x.ok ∧ x.vals = cs := by
  obtain ⟨a, r, rfl, wa, h⟩ := h.cons
  obtain ⟨b, r, rfl, wb, h⟩ := h.cons
  obtain ⟨c, r, rfl, wc, h⟩ := h.cons
  obtain rfl := h.nil_eq
  exact ⟨⟨a, b, c⟩, ⟨bounds_i8 wa, bounds_i16 wb, bounds_i16 wc⟩, rfl⟩
end Go.Proofs.Ytjkclggdaafmaaa
namespace Go.Proofs.Ytjkclggdaafmaaa
set_option linter.unusedSimpArgs false
set_option linter.unusedVariables false
open Go.ChangeShapes Go.WideShapes Go.ChangeAt Go.RowKit
set_option linter.unusedVariables false

theorem own : ownKnob Try.prog.godebug = none := by kernel_rfl
theorem laidOut : laidOutB Try.prog = true := by kernel_rfl
set_option maxRecDepth 100000 in
theorem FnExactCheapestNets_lifted (os : Os) (started : os.Started) (H : Type) (enc : TypeId × Value → H) :
    ReturnsInHanded {} Try.checked os 3 .any (Rows.fnExactCheapestNetsSpec.pre6 enc Try.prog Try.f3 Rows.fnExactCheapestNetsRow.domain false) (Rows.fnExactCheapestNetsSpec.post enc Try.prog Try.f3 false true false false) := by
  refine returnsInHanded_of_change (C := Try.checked) own started (by kernel_rfl) Try.func3
    (ChangeSpec.witness6 (enc := enc) (C := Try.checked) false ⟨#[], #[.agg Fld.z.cells, .agg Prices.z.vals.toArray, .agg Cs.z.cells, .int .i64 0], []⟩ 512 (by kernel_rfl) (by kernel_rfl) (by kernel_rfl) (by kernel_rfl)) ?_
  intro W base args ds gs before hval0 hW hcnd _
  have hval : ∀ (j : Nat) t v, Try.f3.params[j]? = some t → args[j]? = some v → Value.okWide Try.prog W .any base t v := hval0
  have hW' := hW
  obtain ⟨p, q, hA0, hV, rfl, hfz, hnd⟩ := hW
  have hA : DataW.TrodAll enc Try.prog W 0 (fun _ => true) true Try.f3.params.toList args.toList ds p := hA0
  rw [Try.params3] at hA hval
  obtain ⟨v0, vs0, d0, ds0, p0, q0, hargs, rfl, rfl, h0, r0⟩ := trodAll_cons hA
  obtain ⟨v1, vs1, d1, ds1, p1, q1, rfl, rfl, rfl, h1, r1⟩ := trodAll_cons r0
  obtain ⟨v2, vs2, d2, ds2, p2, q2, rfl, rfl, rfl, h2, r2⟩ := trodAll_cons r1
  obtain ⟨v3, vs3, d3, ds3, p3, q3, rfl, rfl, rfl, h3, r3⟩ := trodAll_cons r2
  obtain ⟨rfl, rfl, rfl⟩ := trodAll_nil r3
  obtain rfl : args = #[v0, v1, v2, v3] := by cases args; simp_all
  obtain ⟨rfl, rfl⟩ := trodVars_none hV
  have k0 := h0
  have lt0 : ∀ x ∈ p0, x.block < W.heap.size := by obtain ⟨m, hm⟩ := k0; exact DataW.trod_lt m _ _ _ hm
  have k1 := h1
  have lt1 : ∀ x ∈ p1, x.block < W.heap.size := by obtain ⟨m, hm⟩ := k1; exact DataW.trod_lt m _ _ _ hm
  have k2 := h2
  have lt2 : ∀ x ∈ p2, x.block < W.heap.size := by obtain ⟨m, hm⟩ := k2; exact DataW.trod_lt m _ _ _ hm
  have k3 := h3
  have lt3 : ∀ x ∈ p3, x.block < W.heap.size := by obtain ⟨m, hm⟩ := k3; exact DataW.trod_lt m _ _ _ hm
  obtain ⟨cs0, rfl, j0⟩ := open_flat (d0 := 6) (ks := Fld.ks) (by kernel_rfl) (by kernel_rfl) Try.underlying27 rfl (hval 0 27 v0 rfl rfl) h0
  obtain ⟨a0, ok0, rfl⟩ := Fld.of_conf j0
  obtain ⟨cs1, rfl, j1⟩ := open_flat (d0 := 6) (ks := Prices.ks) (by kernel_rfl) (by kernel_rfl) Try.underlying29 rfl (hval 1 29 v1 rfl rfl) h1
  obtain ⟨a1, ok1, rfl⟩ := Prices.of_conf _ j1
  obtain ⟨cs2, rfl, j2⟩ := open_flat (d0 := 6) (ks := Cs.ks) (by kernel_rfl) (by kernel_rfl) Try.underlying31 rfl (hval 2 31 v2 rfl rfl) h2
  obtain ⟨a2, ok2, rfl⟩ := Cs.of_conf _ j2
  obtain ⟨a3, rfl, rfl, rfl, w3⟩ := open_int Try.underlying2 (hval 3 2 v3 rfl rfl) h3
  clear hA0 hval0
  refine (lawCheapestNets_any a0 ok0 a1 ok1 a2 ok2 a3 W).mono fun e W' ⟨he, mem⟩ => ?_
  subst he
  have bel := mem.below
  exact ⟨_, rfl, _, _, _, [], _, [], hW', trodAll_mk1 (shut_bool Try.underlying4 _), (trodAll_cons_mk (Below.trod laidOut (by kernel_rfl) (of_decide_eq_true (by kernel_rfl)) k0 bel lt0) (trodAll_cons_mk (Below.trod laidOut (by kernel_rfl) (of_decide_eq_true (by kernel_rfl)) k1 bel lt1) (trodAll_cons_mk (Below.trod laidOut (by kernel_rfl) (of_decide_eq_true (by kernel_rfl)) k2 bel lt2) (trodAll_cons_mk (shut_int Try.underlying2 w3) (trodAll_mk0))))), rfl, bel.frame _, fun h => by cases h⟩
theorem FnExactCheapestNets_over : Rows.fnExactCheapestNetsRow.holds Try.pinned (OpenSpec.ofChange Rows.fnExactCheapestNetsSpec) :=
  OpenClaim.holds_of_wide 3 Try.f3 rfl rfl rfl rfl rfl rfl rfl ⟨rfl, rfl, rfl, rfl, rfl⟩ rfl rfl rfl rfl rfl (by kernel_rfl) Try.func3 (by kernel_rfl)
    (of_decide_eq_true (by kernel_rfl)) (by unfold Func.isWrapper; first | (rw [if_pos (by decide +kernel)]; kernel_rfl) | (rw [if_neg (by decide +kernel)]; exact ⟨rfl, rfl⟩))
    (fun os started H enc _ => FnExactCheapestNets_lifted os started H enc)
theorem FnExactCheapestNets_proved : Rows.FnExactCheapestNetsSaid := FnExactCheapestNets_over
end Go.Proofs.Ytjkclggdaafmaaa
