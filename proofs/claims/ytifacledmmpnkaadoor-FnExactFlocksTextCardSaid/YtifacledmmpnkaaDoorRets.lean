/- The end of a function whose results lie in memory, in part. No program. -/
import Derived.Test.YtifacledmmpnkaaDoorEv
namespace Go.Proofs.YtifacledmmpnkaaDoor
set_option linter.unusedSimpArgs false
set_option linter.unusedVariables false
open Go.RowKit

/-- A value that points to a variable of a type, and what lies there. -/
def Var (P : Program) (w : World) (ty : TypeId) (v : Value) (cs : Array Value) : Prop :=
  ∃ g, v = .pointer (some ⟨g, 0, none⟩) ∧ (loadVar ty ⟨g, 0, none⟩).run P w = .ok (.agg cs) w
theorem Blk.var {P : Program} {w : World} {g : Nat} {t : TypeId} {cs : Array Value} (hb : Blk w g t cs) {ty : TypeId} {d : TypeDesc} (hu : P.underlying ty = some d) (hd : (match d with | .struct _ | .array _ _ => true | _ => false) = true)
    (hi : (P.info? ty).map (·.size) = some cs.size) : Var P w ty (.pointer (some ⟨g, 0, none⟩)) cs := ⟨g, rfl, run_loadVar_row w g t ty cs (0, 0) d hb hu hd hi⟩
section
variable {P : Program} {fn : Func} {R : Ending → World → Prop} {tmps : Array Value} {w : World} {p q u x : Tmp} {ty ty' : TypeId} {cs cs' : Array Value}
theorem ret_ct (hr : fn.results = #[.cell p ty, .tmp u]) (hp : Var P w ty (tmps.getD p undef) cs) (h : R (.returned (.tuple #[.agg cs, tmps.getD u undef])) w) : bodyPost P fn R .ret { tmps := tmps, defers := [] } w := by
  obtain ⟨g, h1, h2⟩ := hp
  have h1' : tmps[p]?.getD undef = .pointer (some ⟨g, 0, none⟩) := by simpa using h1
  refine bodyPost_ret (v := .tuple #[.agg cs, tmps.getD u undef]) ?_ rfl h
  simp [results, hr, h1', asAddr, h2]
theorem ret_ctt (hr : fn.results = #[.cell p ty, .tmp u, .tmp x]) (hp : Var P w ty (tmps.getD p undef) cs) (h : R (.returned (.tuple #[.agg cs, tmps.getD u undef, tmps.getD x undef])) w) : bodyPost P fn R .ret { tmps := tmps, defers := [] } w := by
  obtain ⟨g, h1, h2⟩ := hp
  have h1' : tmps[p]?.getD undef = .pointer (some ⟨g, 0, none⟩) := by simpa using h1
  refine bodyPost_ret (v := .tuple #[.agg cs, tmps.getD u undef, tmps.getD x undef]) ?_ rfl h
  simp [results, hr, h1', asAddr, h2]
theorem ret_cc (hr : fn.results = #[.cell p ty, .cell q ty']) (hp : Var P w ty (tmps.getD p undef) cs) (hq : Var P w ty' (tmps.getD q undef) cs')
    (h : R (.returned (.tuple #[.agg cs, .agg cs'])) w) : bodyPost P fn R .ret { tmps := tmps, defers := [] } w := by
  obtain ⟨g, h1, h2⟩ := hp
  obtain ⟨g', h3, h4⟩ := hq
  have h1' : tmps[p]?.getD undef = .pointer (some ⟨g, 0, none⟩) := by simpa using h1
  have h3' : tmps[q]?.getD undef = .pointer (some ⟨g', 0, none⟩) := by simpa using h3
  refine bodyPost_ret (v := .tuple #[.agg cs, .agg cs']) ?_ rfl h
  simp [results, hr, h1', h3', asAddr, h2, h4]
theorem ret_cct (hr : fn.results = #[.cell p ty, .cell q ty', .tmp u]) (hp : Var P w ty (tmps.getD p undef) cs) (hq : Var P w ty' (tmps.getD q undef) cs')
    (h : R (.returned (.tuple #[.agg cs, .agg cs', tmps.getD u undef])) w) : bodyPost P fn R .ret { tmps := tmps, defers := [] } w := by
  obtain ⟨g, h1, h2⟩ := hp
  obtain ⟨g', h3, h4⟩ := hq
  have h1' : tmps[p]?.getD undef = .pointer (some ⟨g, 0, none⟩) := by simpa using h1
  have h3' : tmps[q]?.getD undef = .pointer (some ⟨g', 0, none⟩) := by simpa using h3
  refine bodyPost_ret (v := .tuple #[.agg cs, .agg cs', tmps.getD u undef]) ?_ rfl h
  simp [results, hr, h1', h3', asAddr, h2, h4]
theorem ret_cctt (hr : fn.results = #[.cell p ty, .cell q ty', .tmp u, .tmp x]) (hp : Var P w ty (tmps.getD p undef) cs) (hq : Var P w ty' (tmps.getD q undef) cs')
    (h : R (.returned (.tuple #[.agg cs, .agg cs', tmps.getD u undef, tmps.getD x undef])) w) : bodyPost P fn R .ret { tmps := tmps, defers := [] } w := by
  obtain ⟨g, h1, h2⟩ := hp
  obtain ⟨g', h3, h4⟩ := hq
  have h1' : tmps[p]?.getD undef = .pointer (some ⟨g, 0, none⟩) := by simpa using h1
  have h3' : tmps[q]?.getD undef = .pointer (some ⟨g', 0, none⟩) := by simpa using h3
  refine bodyPost_ret (v := .tuple #[.agg cs, .agg cs', tmps.getD u undef, tmps.getD x undef]) ?_ rfl h
  simp [results, hr, h1', h3', asAddr, h2, h4]
end
end Go.Proofs.YtifacledmmpnkaaDoor
