/- A region that draws its order, what is read first taken first: loads under a condition on the world that all others keep. -/
import Derived.Test.YtaepgjjmfopiiaaDoorDrawn3
import Derived.OrdersHeld
namespace Go.Proofs.YtaepgjjmfopiiaaDoor
set_option linter.unusedSimpArgs false
set_option linter.unusedVariables false
open Go.RowKit

section
variable {P : Program} {md : Region.Mode} {ops : Array Oper} {Q : Exit → Act → World → Prop} {S : World → Prop} {fuel : Nat} {listed : Array Bool} {a : Act} {w : World}
theorem takeH {i : Nat} {oi : Oper} {v : Value} (d : Tmp) (hi : ops[i]? = some oi)
    (hs : Region.noSelect ops = true) (hf : Region.free md ops listed i = true) (hr : (Region.ready md ops listed).contains i = true)
    (hQ : ∀ c a w, Q (.panic c) (a.put oi.dst v) w → Q (.panic c) a w) (hd : oi.dst = some d) (hS : S w) (hy : YieldsIf P ops S oi v a)
    (h : wpAnyH P md ops Q S fuel (listed.setIfInBounds i true) (a.put (some d) v) w) : wpAnyH P md ops Q S (fuel + 1) listed a w :=
  wpAnyH_take hi hs hf hr hQ hy hS (by rw [hd]; exact h)
theorem ylds {o : Oper} (T : TypeId) (x : Operand) (ho : o.op = .load T x) (hg : o.guard = none) {p : Addr} {v : Value} {d : TypeDesc} (hu : P.underlying T = some d) (hd : TypeDesc_row d = false)
    (hx : a.eval x = .pointer (some p)) (hc : ∀ w, S w → w.cell? p = some v) : YieldsIf P ops S o v a :=
  .inl ⟨by simp [Region.wanted, hg], fun w hS => by
    unfold execOp
    simp only [ho, hx, Sem.run_bind, Result.andThen_ok, run_get T hu hd (hc w hS), Sem.run_pure]⟩
theorem yldsW {o : Oper} (T : TypeId) (x : Operand) (ho : o.op = .load T x) (hw : Region.wanted o (yielded ops a.tmps) = true) {p : Addr} {v : Value} {d : TypeDesc} (hu : P.underlying T = some d) (hd : TypeDesc_row d = false)
    (hx : a.eval x = .pointer (some p)) (hc : ∀ w, S w → w.cell? p = some v) : YieldsIf P ops S o v a :=
  .inl ⟨hw, fun w hS => by
    unfold execOp
    simp only [ho, hx, Sem.run_bind, Result.andThen_ok, run_get T hu hd (hc w hS), Sem.run_pure]⟩
theorem yldw {o : Oper} (T : TypeId) (x : Operand) (ho : o.op = .load T x) (hg : o.guard = none) {g : Nat} {t : TypeId} {cs : Array Value} {d : TypeDesc} (hu : P.underlying T = some d)
    (hd : (match d with | .struct _ | .array _ _ => true | _ => false) = true) (hi : (P.info? T).map (·.size) = some cs.size) (hx : a.eval x = .pointer (some ⟨g, 0, none⟩)) (hb : ∀ w, S w → Blk w g t cs) : YieldsIf P ops S o (.agg cs) a :=
  .inl ⟨by simp [Region.wanted, hg], fun w hS => by
    have hagg : (isAgg T).run P w = .ok true w := by
      unfold isAgg
      rw [Sem.run_bind, run_underlying hu w]
      cases d <;> simp_all
    unfold execOp
    simp only [ho, hx, Instr.loadAt, Instr.sureAddr, Sem.run_bind, Result.andThen_ok, run_loadVar_row w g t T cs (0, 0) d (hb w hS) hu hd hi, Sem.run_pure, hagg]⟩
theorem any1H (i : Nat) {o : Oper} (hr : Region.ready md ops listed = [i]) (ho : ops[i]? = some o)
    (h : ∀ K : Act → World → Prop, (∀ a w, S w ∧ wpAnyH P md ops Q S fuel (listed.setIfInBounds i true) a w → K a w) → wpList P ops (onward K) [o] a w) : wpAnyH P md ops Q S (fuel + 1) listed a w :=
  wpAnyH_all hr (by simp) fun j hj => by
    rw [List.mem_singleton.1 hj]
    exact wpOp_onward ho (h _ fun _ _ h => h)
theorem any2H (i j : Nat) {o o' : Oper} (hr : Region.ready md ops listed = [i, j]) (ho : ops[i]? = some o) (ho' : ops[j]? = some o')
    (h : ∀ K : Act → World → Prop, (∀ a w, S w ∧ wpAnyH P md ops Q S fuel (listed.setIfInBounds i true) a w → K a w) → wpList P ops (onward K) [o] a w)
    (h' : ∀ K : Act → World → Prop, (∀ a w, S w ∧ wpAnyH P md ops Q S fuel (listed.setIfInBounds j true) a w → K a w) → wpList P ops (onward K) [o'] a w) : wpAnyH P md ops Q S (fuel + 1) listed a w :=
  wpAnyH_all hr (by simp) fun k hk => by
    rcases List.mem_cons.1 hk with rfl | hk
    · exact wpOp_onward ho (h _ fun _ _ h => h)
    · rw [List.mem_singleton.1 hk]
      exact wpOp_onward ho' (h' _ fun _ _ h => h)
theorem region_anyH {id : Nat} (S : World → Prop) (hm : P.follows .mixedOrders = true)
    (h : wpAnyH P .any ops Q S ops.size (Array.replicate ops.size false) a w.drew) : (Code.region id ops true).wp P Q a w := wp_region_held hm h
end
end Go.Proofs.YtaepgjjmfopiiaaDoor
