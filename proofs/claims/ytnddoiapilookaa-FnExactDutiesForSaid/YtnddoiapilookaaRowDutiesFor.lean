/- The law of the greatest duties: for every field, all prices and every set of targets it returns true and changes nothing that was there. No condition. -/
import Derived.Test.YtnddoiapilookaaRows
import Derived.Test.YtnddoiapilookaaDutyNLaw
import Derived.Test.YtnddoiapilookaaConf
import Derived.ProofKit
import Derived.Below
namespace Go.Proofs.Ytnddoiapilookaa
set_option linter.unusedSimpArgs false
set_option linter.unusedVariables false
open Go.ChangeShapes Go.WideShapes Go.ChangeAt Go.RowKit
set_option linter.unusedVariables false

theorem own : ownKnob Try.prog.godebug = none := by kernel_rfl
theorem laidOut : laidOutB Try.prog = true := by kernel_rfl
set_option maxRecDepth 100000 in
theorem FnExactDutiesFor_lifted (os : Os) (started : os.Started) (H : Type) (enc : TypeId × Value → H) :
    ReturnsInHanded {} Try.checked os 14 .any (Rows.fnExactDutiesForSpec.pre6 enc Try.prog Try.f14 Rows.fnExactDutiesForRow.domain false) (Rows.fnExactDutiesForSpec.post enc Try.prog Try.f14 false true false false) := by
  refine returnsInHanded_of_change (C := Try.checked) own started (by kernel_rfl) Try.func14
    (ChangeSpec.witness6 (enc := enc) (C := Try.checked) false ⟨#[], #[.agg Fld.z.cells, .agg Prices.z.vals.toArray, .agg Cs.z.cells], []⟩ 512 (by kernel_rfl) (by kernel_rfl) (by kernel_rfl) (by kernel_rfl)) ?_
  intro W base args ds gs before hval0 hW hcnd _
  have hval : ∀ (j : Nat) t v, Try.f14.params[j]? = some t → args[j]? = some v → Value.okWide Try.prog W .any base t v := hval0
  have hW' := hW
  obtain ⟨p, q, hA0, hV, rfl, hfz, hnd⟩ := hW
  have hA : DataW.TrodAll enc Try.prog W 0 (fun _ => true) true Try.f14.params.toList args.toList ds p := hA0
  rw [Try.params14] at hA hval
  obtain ⟨v0, vs0, d0, ds0, p0, q0, hargs, rfl, rfl, h0, r0⟩ := trodAll_cons hA
  obtain ⟨v1, vs1, d1, ds1, p1, q1, rfl, rfl, rfl, h1, r1⟩ := trodAll_cons r0
  obtain ⟨v2, vs2, d2, ds2, p2, q2, rfl, rfl, rfl, h2, r2⟩ := trodAll_cons r1
  obtain ⟨rfl, rfl, rfl⟩ := trodAll_nil r2
  obtain rfl : args = #[v0, v1, v2] := by cases args; simp_all
  obtain ⟨rfl, rfl⟩ := trodVars_none hV
  have k0 := h0
  have lt0 : ∀ x ∈ p0, x.block < W.heap.size := by obtain ⟨m, hm⟩ := k0; exact DataW.trod_lt m _ _ _ hm
  have k1 := h1
  have lt1 : ∀ x ∈ p1, x.block < W.heap.size := by obtain ⟨m, hm⟩ := k1; exact DataW.trod_lt m _ _ _ hm
  have k2 := h2
  have lt2 : ∀ x ∈ p2, x.block < W.heap.size := by obtain ⟨m, hm⟩ := k2; exact DataW.trod_lt m _ _ _ hm
  obtain ⟨cs0, rfl, j0⟩ := open_flat (d0 := 6) (ks := Fld.ks) (by kernel_rfl) (by kernel_rfl) Try.underlying27 rfl (hval 0 27 v0 rfl rfl) h0
  obtain ⟨a0, ok0, rfl⟩ := Fld.of_conf j0
  obtain ⟨cs1, rfl, j1⟩ := open_flat (d0 := 6) (ks := Prices.ks) (by kernel_rfl) (by kernel_rfl) Try.underlying37 rfl (hval 1 37 v1 rfl rfl) h1
  obtain ⟨a1, ok1, rfl⟩ := Prices.of_conf _ j1
  obtain ⟨cs2, rfl, j2⟩ := open_flat (d0 := 6) (ks := Cs.ks) (by kernel_rfl) (by kernel_rfl) Try.underlying50 rfl (hval 2 50 v2 rfl rfl) h2
  obtain ⟨a2, ok2, rfl⟩ := Cs.of_conf _ j2
  clear hA0 hval0
  refine (lawDutiesFor_any a0 ok0 a1 ok1 a2 ok2 W).mono fun e W' ⟨he, mem⟩ => ?_
  subst he
  have bel := mem.below
  exact ⟨_, rfl, _, _, _, [], _, [], hW', trodAll_mk1 (shut_bool Try.underlying4 _), (trodAll_cons_mk (Below.trod laidOut (by kernel_rfl) (of_decide_eq_true (by kernel_rfl)) k0 bel lt0) (trodAll_cons_mk (Below.trod laidOut (by kernel_rfl) (of_decide_eq_true (by kernel_rfl)) k1 bel lt1) (trodAll_cons_mk (Below.trod laidOut (by kernel_rfl) (of_decide_eq_true (by kernel_rfl)) k2 bel lt2) (trodAll_mk0)))), rfl, bel.frame _, fun h => by cases h⟩
theorem FnExactDutiesFor_over : Rows.fnExactDutiesForRow.holds Try.pinned (OpenSpec.ofChange Rows.fnExactDutiesForSpec) :=
  OpenClaim.holds_of_wide 14 Try.f14 rfl rfl rfl rfl rfl rfl rfl ⟨rfl, rfl, rfl, rfl, rfl⟩ rfl rfl rfl rfl rfl (by kernel_rfl) Try.func14 (by kernel_rfl)
    (of_decide_eq_true (by kernel_rfl)) (by unfold Func.isWrapper; first | (rw [if_pos (by decide +kernel)]; kernel_rfl) | (rw [if_neg (by decide +kernel)]; exact ⟨rfl, rfl⟩))
    (fun os started H enc _ => FnExactDutiesFor_lifted os started H enc)
theorem FnExactDutiesFor_proved : Rows.FnExactDutiesForSaid := FnExactDutiesFor_over
end Go.Proofs.Ytnddoiapilookaa
