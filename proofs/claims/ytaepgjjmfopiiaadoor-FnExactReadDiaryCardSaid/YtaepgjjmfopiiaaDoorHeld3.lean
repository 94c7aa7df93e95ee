/- Regions with three operations ready at once; ways to tell once what comes behind a region. -/
import Derived.Test.YtaepgjjmfopiiaaDoorHeld
namespace Go.Proofs.YtaepgjjmfopiiaaDoor
set_option linter.unusedSimpArgs false
set_option linter.unusedVariables false
open Go.RowKit

theorem merge0 {G : Prop} {K T : World → Prop} (hA : (∀ w, K w → T w) → G) (hB : ∀ w, K w → T w) : G := hA hB
theorem merge1 {α : Type} {G : Prop} {K T : α → World → Prop} (hA : (∀ a w, K a w → T a w) → G) (hB : ∀ a w, K a w → T a w) : G := hA hB
theorem merge2 {α β : Type} {G : Prop} {K T : α → β → World → Prop} (hA : (∀ a b w, K a b w → T a b w) → G) (hB : ∀ a b w, K a b w → T a b w) : G := hA hB
theorem merge3 {α β γ : Type} {G : Prop} {K T : α → β → γ → World → Prop} (hA : (∀ a b c w, K a b c w → T a b c w) → G) (hB : ∀ a b c w, K a b c w → T a b c w) : G := hA hB
theorem merge4 {α β γ δ : Type} {G : Prop} {K T : α → β → γ → δ → World → Prop} (hA : (∀ a b c d w, K a b c d w → T a b c d w) → G) (hB : ∀ a b c d w, K a b c d w → T a b c d w) : G := hA hB
theorem merge5 {α β γ δ ε : Type} {G : Prop} {K T : α → β → γ → δ → ε → World → Prop} (hA : (∀ a b c d e w, K a b c d e w → T a b c d e w) → G) (hB : ∀ a b c d e w, K a b c d e w → T a b c d e w) : G := hA hB
theorem merge6 {α β γ δ ε ζ : Type} {G : Prop} {K T : α → β → γ → δ → ε → ζ → World → Prop} (hA : (∀ a b c d e f w, K a b c d e f w → T a b c d e f w) → G) (hB : ∀ a b c d e f w, K a b c d e f w → T a b c d e f w) : G := hA hB
section
variable {P : Program} {ops : Array Oper} {rest : List Oper} {o : Oper} {a : Act} {w : World} {Q : Exit → Act → World → Prop}
/-- An operation whose guard lets it run. -/
theorem gate_want (hw : Region.wanted o (yielded ops a.tmps) = true) (h : wpList P ops Q ({ o with guard := none } :: rest) a w) : wpList P ops Q (o :: rest) a w := by
  unfold wpList at h ⊢
  rw [if_pos hw]
  rw [if_pos (by simp [Region.wanted])] at h
  exact h
end
section
variable {P : Program} {md : Region.Mode} {ops : Array Oper} {Q : Exit → Act → World → Prop} {S : World → Prop} {fuel : Nat} {listed : Array Bool} {a : Act} {w : World}
theorem yldwW {o : Oper} (T : TypeId) (x : Operand) (ho : o.op = .load T x) (hw : Region.wanted o (yielded ops a.tmps) = true) {g : Nat} {t : TypeId} {cs : Array Value} {d : TypeDesc} (hu : P.underlying T = some d)
    (hd : (match d with | .struct _ | .array _ _ => true | _ => false) = true) (hi : (P.info? T).map (·.size) = some cs.size) (hx : a.eval x = .pointer (some ⟨g, 0, none⟩)) (hb : ∀ w, S w → Blk w g t cs) : YieldsIf P ops S o (.agg cs) a :=
  .inl ⟨hw, fun w hS => by
    have hagg : (isAgg T).run P w = .ok true w := by
      unfold isAgg
      rw [Sem.run_bind, run_underlying hu w]
      cases d <;> simp_all
    unfold execOp
    simp only [ho, hx, Instr.loadAt, Instr.sureAddr, Sem.run_bind, Result.andThen_ok, run_loadVar_row w g t T cs (0, 0) d (hb w hS) hu hd hi, Sem.run_pure, hagg]⟩
theorem any3H (i j k : Nat) {o o' o'' : Oper} (hr : Region.ready md ops listed = [i, j, k]) (ho : ops[i]? = some o) (ho' : ops[j]? = some o') (ho'' : ops[k]? = some o'')
    (h : ∀ K : Act → World → Prop, (∀ a w, S w ∧ wpAnyH P md ops Q S fuel (listed.setIfInBounds i true) a w → K a w) → wpList P ops (onward K) [o] a w)
    (h' : ∀ K : Act → World → Prop, (∀ a w, S w ∧ wpAnyH P md ops Q S fuel (listed.setIfInBounds j true) a w → K a w) → wpList P ops (onward K) [o'] a w)
    (h'' : ∀ K : Act → World → Prop, (∀ a w, S w ∧ wpAnyH P md ops Q S fuel (listed.setIfInBounds k true) a w → K a w) → wpList P ops (onward K) [o''] a w) : wpAnyH P md ops Q S (fuel + 1) listed a w :=
  wpAnyH_all hr (by simp) fun l hl => by
    rcases List.mem_cons.1 hl with rfl | hl
    · exact wpOp_onward ho (h _ fun _ _ h => h)
    · rcases List.mem_cons.1 hl with rfl | hl
      · exact wpOp_onward ho' (h' _ fun _ _ h => h)
      · rw [List.mem_singleton.1 hl]
        exact wpOp_onward ho'' (h'' _ fun _ _ h => h)
end
end Go.Proofs.YtaepgjjmfopiiaaDoor
