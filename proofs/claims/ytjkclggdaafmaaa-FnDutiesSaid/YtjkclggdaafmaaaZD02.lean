/- Texts of a proof, laid together: Conf0, Net, Drawn, Drawn3, Held, Held3, SameN, Grow, Gen, Cells, Mark64, RowI0, EqI, Rets, Sets. -/
import Derived.Test.YtjkclggdaafmaaaZD01
import Derived.Test.YtjkclggdaafmaaaZD00
import Derived.OrdersHeld
import Derived.Great.BuildSlice
import Derived.Laws.OwnMore
import Derived.Laws.Bits64b
namespace Go.Proofs.Ytjkclggdaafmaaa
set_option linter.unusedSimpArgs false
set_option linter.unusedVariables false
open Go.ChangeShapes Go.WideShapes Go.RowKit Go.Deep

theorem Conf.cons {k : IntKind} {ks : List IntKind} {cs : List Value} (h : Conf (k :: ks) cs) : ∃ n r, cs = Value.int k n :: r ∧ (Lit.int k n).wf = true ∧ Conf ks r := by
  obtain ⟨n, h1, h2⟩ := h.2 0 k rfl
  cases cs with
  | nil => cases h1
  | cons v r =>
    simp only [List.getElem?_cons_zero, Option.some.injEq] at h1
    subst h1
    refine ⟨n, r, rfl, h2, by simpa using h.1, fun i k' hk => ?_⟩
    obtain ⟨m, h3, h4⟩ := h.2 (i + 1) k' (by simpa using hk)
    exact ⟨m, by simpa using h3, h4⟩
theorem Conf.nil_eq {cs : List Value} (h : Conf [] cs) : cs = [] := List.length_eq_zero_iff.1 (by simpa using h.1)
theorem Conf.reps {k : IntKind} {n : Nat} {ks : List IntKind} {cs : List Value} (h : Conf (List.replicate n k ++ ks) cs) :
    ∃ (xs : List Int) (r : List Value), cs = xs.map (Value.int k) ++ r ∧ xs.length = n ∧ (∀ x ∈ xs, (Lit.int k x).wf = true) ∧ Conf ks r := by
  induction n generalizing cs with
  | zero => exact ⟨[], cs, rfl, rfl, by simp, by simpa using h⟩
  | succ n ih =>
    rw [List.replicate_succ, List.cons_append] at h
    obtain ⟨x, r, rfl, hw, hr⟩ := h.cons
    obtain ⟨xs, r', rfl, hl, hx, hr'⟩ := ih hr
    refine ⟨x :: xs, r', by simp, by simp [hl], fun y hy => ?_, hr'⟩
    rcases List.mem_cons.1 hy with rfl | hy
    · exact hw
    · exact hx y hy
end Go.Proofs.Ytjkclggdaafmaaa
namespace Go.Proofs.Ytjkclggdaafmaaa
set_option linter.unusedSimpArgs false
set_option linter.unusedVariables false
open Go.RowKit
structure Net where
  x : Int
  y : Int
  wide : Int
  high : Int
  deriving DecidableEq
def Net.vals (x : Net) : List Value := [.int .i8 x.x, .int .i8 x.y, .int .i8 x.wide, .int .i8 x.high]
theorem Net.vl (x : Net) : x.vals.length = 4 := rfl
theorem Net.one (x : Net) : x.vals.toArray.all (·.oneCell') = true := by simp [Net.vals, Value.oneCell']
structure Net.ok (r : Net) : Prop where
  x : -128 ≤ r.x ∧ r.x ≤ 127
  y : -128 ≤ r.y ∧ r.y ≤ 127
  wide : -128 ≤ r.wide ∧ r.wide ≤ 127
  high : -128 ≤ r.high ∧ r.high ≤ 127
def Net.z : Net := ⟨0, 0, 0, 0⟩
theorem elem_Net : ElemOk Try.prog 32 65 (.agg Net.z.vals.toArray) 4 4 := ⟨by kernel_rfl, by kernel_rfl, by kernel_rfl, by decide⟩
def Net.ks : List IntKind := [.i8, .i8, .i8, .i8]
theorem Net.of_conf (cs : List Value) (h : Conf Net.ks cs) : ∃ x : Net, x.ok ∧ x.vals = cs := by
  obtain ⟨e0, r, rfl, w0, h⟩ := h.cons
  obtain ⟨e1, r, rfl, w1, h⟩ := h.cons
  obtain ⟨e2, r, rfl, w2, h⟩ := h.cons
  obtain ⟨e3, r, rfl, w3, h⟩ := h.cons
  obtain rfl := h.nil_eq
  exact ⟨⟨e0, e1, e2, e3⟩, ⟨bounds_i8 w0, bounds_i8 w1, bounds_i8 w2, bounds_i8 w3⟩, rfl⟩
end Go.Proofs.Ytjkclggdaafmaaa
namespace Go.Proofs.Ytjkclggdaafmaaa
set_option linter.unusedSimpArgs false
set_option linter.unusedVariables false
open Go.RowKit

def onward (K : Act → World → Prop) : Exit → Act → World → Prop := fun e a w => match e with | .normal => K a w | _ => False
theorem onward_normal {K : Act → World → Prop} {a : Act} {w : World} (h : K a w) : onward K .normal a w := h
theorem Oper.of_onward {P : Program} {o : Oper} {a : Act} {w : World} {K K' : Act → World → Prop} {Q : Exit → Act → World → Prop} (hk : ∀ a w, K' a w → K a w)
    (hh : o.wp P a w K' (onward K)) : o.wp P a w K Q := by
  unfold Oper.wp at *
  generalize (execOp a.eval o).run P w = r at *
  cases r with
  | ok n w' =>
    cases n <;> simp only [Oper.upon] at hh ⊢ <;>
      first
        | exact hk _ _ hh
        | exact Calls.mono hh (fun e w'' he => by
            cases e
            · exact hk _ _ he
            · exact absurd he id
            · exact absurd (show LetsOut (onward K) from he).choose_spec.choose_spec id)
        | exact Rows.mono hh (fun _ _ he => hk _ _ he)
  | halt x w' => cases x <;> simp only [Oper.upon] at hh ⊢ <;> exact absurd hh id

theorem wpOp_onward {P : Program} {ops : Array Oper} {Q : Exit → Act → World → Prop} {i : Nat} {K : Act → World → Prop} {a : Act} {w : World} {o : Oper} (ho : ops[i]? = some o)
    (h : wpList P ops (onward K) [o] a w) : wpOp P ops Q i K a w := by
  unfold wpOp
  rw [ho]
  show if Region.wanted o (yielded ops a.tmps) = true then _ else _
  unfold wpList at h
  split
  · rename_i hw
    rw [if_pos hw] at h
    rcases h with h | h
    · exact .inl (Oper.of_onward (fun _ _ h => h) h)
    · exact absurd h.2.choose_spec.choose_spec id
  · rename_i hw
    rw [if_neg hw] at h
    exact h

end Go.Proofs.Ytjkclggdaafmaaa
namespace Go.Proofs.Ytjkclggdaafmaaa
set_option linter.unusedSimpArgs false
set_option linter.unusedVariables false
open Go.RowKit

end Go.Proofs.Ytjkclggdaafmaaa
namespace Go.Proofs.Ytjkclggdaafmaaa
set_option linter.unusedSimpArgs false
set_option linter.unusedVariables false
open Go.RowKit

section
variable {P : Program} {md : Region.Mode} {ops : Array Oper} {Q : Exit → Act → World → Prop} {S : World → Prop} {fuel : Nat} {listed : Array Bool} {a : Act} {w : World}
theorem takeH {i : Nat} {oi : Oper} {v : Value} (d : Tmp) (hi : ops[i]? = some oi)
    (hs : Region.noSelect ops = true) (hf : Region.free md ops listed i = true) (hr : (Region.ready md ops listed).contains i = true)
    (hQ : ∀ c a w, Q (.panic c) (a.put oi.dst v) w → Q (.panic c) a w) (hd : oi.dst = some d) (hS : S w) (hy : YieldsIf P ops S oi v a)
    (h : wpAnyH P md ops Q S fuel (listed.setIfInBounds i true) (a.put (some d) v) w) : wpAnyH P md ops Q S (fuel + 1) listed a w :=
  wpAnyH_take hi hs hf hr hQ hy hS (by rw [hd]; exact h)
theorem ylds {o : Oper} (T : TypeId) (x : Operand) (ho : o.op = .load T x) (hg : o.guard = none) {p : Addr} {v : Value} {d : TypeDesc} (hu : P.underlying T = some d) (hd : TypeDesc_row d = false)
    (hx : a.eval x = .pointer (some p)) (hc : ∀ w, S w → w.cell? p = some v) : YieldsIf P ops S o v a :=
  .inl ⟨by simp [Region.wanted, hg], fun w hS => by
    unfold execOp
    simp only [ho, hx, Sem.run_bind, Result.andThen_ok, run_get T hu hd (hc w hS), Sem.run_pure]⟩
theorem yldsW {o : Oper} (T : TypeId) (x : Operand) (ho : o.op = .load T x) (hw : Region.wanted o (yielded ops a.tmps) = true) {p : Addr} {v : Value} {d : TypeDesc} (hu : P.underlying T = some d) (hd : TypeDesc_row d = false)
    (hx : a.eval x = .pointer (some p)) (hc : ∀ w, S w → w.cell? p = some v) : YieldsIf P ops S o v a :=
  .inl ⟨hw, fun w hS => by
    unfold execOp
    simp only [ho, hx, Sem.run_bind, Result.andThen_ok, run_get T hu hd (hc w hS), Sem.run_pure]⟩
theorem yldw {o : Oper} (T : TypeId) (x : Operand) (ho : o.op = .load T x) (hg : o.guard = none) {g : Nat} {t : TypeId} {cs : Array Value} {d : TypeDesc} (hu : P.underlying T = some d)
    (hd : (match d with | .struct _ | .array _ _ => true | _ => false) = true) (hi : (P.info? T).map (·.size) = some cs.size) (hx : a.eval x = .pointer (some ⟨g, 0, none⟩)) (hb : ∀ w, S w → Blk w g t cs) : YieldsIf P ops S o (.agg cs) a :=
  .inl ⟨by simp [Region.wanted, hg], fun w hS => by
    have hagg : (isAgg T).run P w = .ok true w := by
      unfold isAgg
      rw [Sem.run_bind, run_underlying hu w]
      cases d <;> simp_all
    unfold execOp
    simp only [ho, hx, Instr.loadAt, Instr.sureAddr, Sem.run_bind, Result.andThen_ok, run_loadVar_row w g t T cs (0, 0) d (hb w hS) hu hd hi, Sem.run_pure, hagg]⟩
theorem any1H (i : Nat) {o : Oper} (hr : Region.ready md ops listed = [i]) (ho : ops[i]? = some o)
    (h : ∀ K : Act → World → Prop, (∀ a w, S w ∧ wpAnyH P md ops Q S fuel (listed.setIfInBounds i true) a w → K a w) → wpList P ops (onward K) [o] a w) : wpAnyH P md ops Q S (fuel + 1) listed a w :=
  wpAnyH_all hr (by simp) fun j hj => by
    rw [List.mem_singleton.1 hj]
    exact wpOp_onward ho (h _ fun _ _ h => h)
theorem any2H (i j : Nat) {o o' : Oper} (hr : Region.ready md ops listed = [i, j]) (ho : ops[i]? = some o) (ho' : ops[j]? = some o')
    (h : ∀ K : Act → World → Prop, (∀ a w, S w ∧ wpAnyH P md ops Q S fuel (listed.setIfInBounds i true) a w → K a w) → wpList P ops (onward K) [o] a w)
    (h' : ∀ K : Act → World → Prop, (∀ a w, S w ∧ wpAnyH P md ops Q S fuel (listed.setIfInBounds j true) a w → K a w) → wpList P ops (onward K) [o'] a w) : wpAnyH P md ops Q S (fuel + 1) listed a w :=
  wpAnyH_all hr (by simp) fun k hk => by
    rcases List.mem_cons.1 hk with rfl | hk
    · exact wpOp_onward ho (h _ fun _ _ h => h)
    · rw [List.mem_singleton.1 hk]
      exact wpOp_onward ho' (h' _ fun _ _ h => h)
theorem region_anyH {id : Nat} (S : World → Prop) (hm : P.follows .mixedOrders = true)
    (h : wpAnyH P .any ops Q S ops.size (Array.replicate ops.size false) a w.drew) : (Code.region id ops true).wp P Q a w := wp_region_held hm h
end
end Go.Proofs.Ytjkclggdaafmaaa
namespace Go.Proofs.Ytjkclggdaafmaaa
set_option linter.unusedSimpArgs false
set_option linter.unusedVariables false
open Go.RowKit

theorem merge1 {α : Type} {G : Prop} {K T : α → World → Prop} (hA : (∀ a w, K a w → T a w) → G) (hB : ∀ a w, K a w → T a w) : G := hA hB
theorem merge2 {α β : Type} {G : Prop} {K T : α → β → World → Prop} (hA : (∀ a b w, K a b w → T a b w) → G) (hB : ∀ a b w, K a b w → T a b w) : G := hA hB
section
variable {P : Program} {ops : Array Oper} {rest : List Oper} {o : Oper} {a : Act} {w : World} {Q : Exit → Act → World → Prop}
/-- An operation whose guard lets it run. -/
theorem gate_want (hw : Region.wanted o (yielded ops a.tmps) = true) (h : wpList P ops Q ({ o with guard := none } :: rest) a w) : wpList P ops Q (o :: rest) a w := by
  unfold wpList at h ⊢
  rw [if_pos hw]
  rw [if_pos (by simp [Region.wanted])] at h
  exact h
end
section
variable {P : Program} {md : Region.Mode} {ops : Array Oper} {Q : Exit → Act → World → Prop} {S : World → Prop} {fuel : Nat} {listed : Array Bool} {a : Act} {w : World}
theorem yldwW {o : Oper} (T : TypeId) (x : Operand) (ho : o.op = .load T x) (hw : Region.wanted o (yielded ops a.tmps) = true) {g : Nat} {t : TypeId} {cs : Array Value} {d : TypeDesc} (hu : P.underlying T = some d)
    (hd : (match d with | .struct _ | .array _ _ => true | _ => false) = true) (hi : (P.info? T).map (·.size) = some cs.size) (hx : a.eval x = .pointer (some ⟨g, 0, none⟩)) (hb : ∀ w, S w → Blk w g t cs) : YieldsIf P ops S o (.agg cs) a :=
  .inl ⟨hw, fun w hS => by
    have hagg : (isAgg T).run P w = .ok true w := by
      unfold isAgg
      rw [Sem.run_bind, run_underlying hu w]
      cases d <;> simp_all
    unfold execOp
    simp only [ho, hx, Instr.loadAt, Instr.sureAddr, Sem.run_bind, Result.andThen_ok, run_loadVar_row w g t T cs (0, 0) d (hb w hS) hu hd hi, Sem.run_pure, hagg]⟩
end
end Go.Proofs.Ytjkclggdaafmaaa
namespace Go.Proofs.Ytjkclggdaafmaaa
set_option linter.unusedSimpArgs false
set_option linter.unusedVariables false
open Go.RowKit
attribute [local go_sem] cell?_mk frozen?_mk
--ONES exact Net.one _

theorem sl_range {w : World} {sz b off n k : Nat} {cs : List Value} (h : Sl w sz (some ⟨b, off, none⟩) n cs) (hn : k < n) : w.rangeAt b off cs := by
  obtain ⟨b1, o1, hB, hr⟩ := h.2 (by omega)
  cases hB
  exact hr
theorem neqNet (x : Net) (w : World) : (binOp .neq 65 (.agg x.vals.toArray) (.agg x.vals.toArray)).run Try.prog w = .ok (.bool false) w := by
  have ui8 := Try.underlying22
  have ai8 := Try.isAgg22
  have zi8 := Try.sizeOf22
  have u4 := Try.underlying65
  unfold Net.vals
  obtain ⟨e0, e1, e2, e3⟩ := x
  go_simp
set_option maxRecDepth 100000 in
set_option maxHeartbeats 2000000 in
theorem NetSame_any (A B : Option Addr) (c d : Nat) (xs : List Net) (w : World) (hl : xs.length ≤ 1048576) (hx : Sl w 4 A xs.length (flat Net.vals xs)) (hy : Sl w 4 B xs.length (flat Net.vals xs)) :
    Calls Try.prog 27 #[.slice A xs.length c, .slice B xs.length d] w fun e w' => e = .returned (.bool true) ∧ Mem w w' [] := by
  have M := Lib.hid (Mem.start w)
  have HX := Lib.hid hx
  have HY := Lib.hid hy
  clear hx hy
  go_enter Try.func27, Try.ntmps27
  go_wp2
  go_loopw [5] (fun v wr => ∃ k : Nat, k ≤ xs.length ∧ v = .int .i64 k ∧ Mem w wr [])
    (fun v _ => xs.length - (intOf v).toNat)
  case atStart => exact ⟨0, by omega, rfl, M.out⟩
  case round =>
    clear M
    obtain ⟨k, hk, rfl, m⟩ := hrel
    have M := Lib.hid m
    clear m
    by_cases hlt : k < xs.length
    · obtain ⟨b, off, rfl, _⟩ := HX.out.2 (by omega)
      obtain ⟨b2, off2, rfl, _⟩ := HY.out.2 (by omega)
      have HXK := Lib.hid (show xs[k]? = some xs[k] from List.getElem?_eq_getElem hlt)
      have i0 : (0 : Int) ≤ (k : Int) := by omega
      have i1 : (k : Int) < (xs.length : Int) := by omega
      obtain ⟨x, hx⟩ : ∃ x, x = xs[k] := ⟨_, rfl⟩
      rw [← hx] at HXK
      clear hx
      have heq := neqNet x
      go_wp2
      refine region_anyH (fun w' => Mem w w' []) (by kernel_rfl) ?_
      have m := M.out.drew
      clear M
      have M := Lib.hid m
      clear m
      apply takeH (i := 0) 17 rfl (by kernel_rfl) (by kernel_rfl) (by kernel_rfl) (fun _ _ _ h => h) rfl (by first | exact M.out | exact M.out.take 0)
      case' hy =>
        refine Or.inl ⟨by first | rfl | (go_simp; done), ?_⟩
        intro w hS
        clear hS
        go_simp
        try with_reducible rfl
      try simp only [Act.put, List.getElem_toArray, List.getElem_cons_succ, List.getElem_cons_zero, List.setIfInBounds_toArray, List.set_cons_succ, List.set_cons_zero]
      apply takeH (i := 1) 18 rfl (by kernel_rfl) (by kernel_rfl) (by kernel_rfl) (fun _ _ _ h => h) rfl (by first | exact M.out | exact M.out.take 0)
      case' hy =>
        refine Or.inl ⟨by first | rfl | (go_simp; done), ?_⟩
        intro w hS
        clear hS
        go_simp
        try with_reducible rfl
      try simp only [Act.put, List.getElem_toArray, List.getElem_cons_succ, List.getElem_cons_zero, List.setIfInBounds_toArray, List.set_cons_succ, List.set_cons_zero]
      apply takeH (i := 2) 19 rfl (by kernel_rfl) (by kernel_rfl) (by kernel_rfl) (fun _ _ _ h => h) rfl (by first | exact M.out | exact M.out.take 0)
      case' hy =>
        refine Or.inl ⟨by first | rfl | (go_simp; done), ?_⟩
        intro w hS
        clear hS
        go_simp
        try with_reducible rfl
      try simp only [Act.put, List.getElem_toArray, List.getElem_cons_succ, List.getElem_cons_zero, List.setIfInBounds_toArray, List.set_cons_succ, List.set_cons_zero]
      apply takeH (i := 3) 20 rfl (by kernel_rfl) (by kernel_rfl) (by kernel_rfl) (fun _ _ _ h => h) rfl (by first | exact M.out | exact M.out.take 0)
      case' hy => exact yieldsIf_load_mid (by first | rfl | (go_simp; done)) _ _ rfl _ _ rfl _ _ (fun w' hS => range_at Net.vl (sl_range (hS.sl HX.out) hlt) HXK.out) Try.underlying65 rfl sz65
      try simp only [Act.put, List.getElem_toArray, List.getElem_cons_succ, List.getElem_cons_zero, List.setIfInBounds_toArray, List.set_cons_succ, List.set_cons_zero]
      apply takeH (i := 4) 21 rfl (by kernel_rfl) (by kernel_rfl) (by kernel_rfl) (fun _ _ _ h => h) rfl (by first | exact M.out | exact M.out.take 0)
      case' hy =>
        refine Or.inl ⟨by first | rfl | (go_simp; done), ?_⟩
        intro w hS
        clear hS
        go_simp
        try with_reducible rfl
      try simp only [Act.put, List.getElem_toArray, List.getElem_cons_succ, List.getElem_cons_zero, List.setIfInBounds_toArray, List.set_cons_succ, List.set_cons_zero]
      apply takeH (i := 5) 22 rfl (by kernel_rfl) (by kernel_rfl) (by kernel_rfl) (fun _ _ _ h => h) rfl (by first | exact M.out | exact M.out.take 0)
      case' hy =>
        refine Or.inl ⟨by first | rfl | (go_simp; done), ?_⟩
        intro w hS
        clear hS
        go_simp
        try with_reducible rfl
      try simp only [Act.put, List.getElem_toArray, List.getElem_cons_succ, List.getElem_cons_zero, List.setIfInBounds_toArray, List.set_cons_succ, List.set_cons_zero]
      apply takeH (i := 6) 23 rfl (by kernel_rfl) (by kernel_rfl) (by kernel_rfl) (fun _ _ _ h => h) rfl (by first | exact M.out | exact M.out.take 0)
      case' hy =>
        refine Or.inl ⟨by first | rfl | (go_simp; done), ?_⟩
        intro w hS
        clear hS
        go_simp
        try with_reducible rfl
      try simp only [Act.put, List.getElem_toArray, List.getElem_cons_succ, List.getElem_cons_zero, List.setIfInBounds_toArray, List.set_cons_succ, List.set_cons_zero]
      apply takeH (i := 7) 24 rfl (by kernel_rfl) (by kernel_rfl) (by kernel_rfl) (fun _ _ _ h => h) rfl (by first | exact M.out | exact M.out.take 0)
      case' hy => exact yieldsIf_load_mid (by first | rfl | (go_simp; done)) _ _ rfl _ _ rfl _ _ (fun w' hS => range_at Net.vl (sl_range (hS.sl HY.out) hlt) HXK.out) Try.underlying65 rfl sz65
      try simp only [Act.put, List.getElem_toArray, List.getElem_cons_succ, List.getElem_cons_zero, List.setIfInBounds_toArray, List.set_cons_succ, List.set_cons_zero]
      apply takeH (i := 8) 25 rfl (by kernel_rfl) (by kernel_rfl) (by kernel_rfl) (fun _ _ _ h => h) rfl (by first | exact M.out | exact M.out.take 0)
      case' hy =>
        refine Or.inl ⟨by first | rfl | (go_simp; done), ?_⟩
        intro w hS
        clear hS
        go_simp
        try with_reducible rfl
      try simp only [Act.put, List.getElem_toArray, List.getElem_cons_succ, List.getElem_cons_zero, List.setIfInBounds_toArray, List.set_cons_succ, List.set_cons_zero]
      refine wpAnyH_done (by kernel_rfl) ?_ _
      go_wp2
      exact ⟨⟨k + 1, by omega, by go_num, M.out⟩, by simp [intOf]; omega⟩
    · obtain rfl : k = xs.length := by omega
      go_wp2
      go_ret
      exact ⟨rfl, M.out⟩
end Go.Proofs.Ytjkclggdaafmaaa
namespace Go.Proofs.Ytjkclggdaafmaaa
set_option linter.unusedSimpArgs false
set_option linter.unusedVariables false
open Go.RowKit

section
variable {P : Program} {ops : Array Oper} {rest : List Oper} {o : Oper} {a : Act} {w0 w : World} {Q : Exit → Act → World → Prop} {L : List Ent}
theorem set_same {α : Type} {L : List α} {i : Nat} {x : α} (h : L[i]? = some x) : L.set i x = L := by
  apply List.ext_getElem?
  intro j
  rw [List.getElem?_set]
  split
  · rename_i hij
    subst hij
    rw [if_pos (List.getElem?_eq_some_iff.1 h).1, h]
  · rfl
/-- One cell of one element exchanged. -/
theorem flat_put {α : Type} {enc : α → List Value} {sz : Nat} (h : ∀ x, (enc x).length = sz) {j : Nat} (hj : j < sz) {v : Value} : ∀ (xs : List α) (k : Nat) (x y : α), xs[k]? = some x → enc y = (enc x).set j v → (flat enc xs).set (k * sz + j) v = flat enc (xs.set k y)
  | [], k, x, y, hk, _ => by simp at hk
  | z :: r, 0, x, y, hk, hy => by
    simp only [List.getElem?_cons_zero, Option.some.injEq] at hk
    subst hk
    simp only [flat, List.flatMap_cons, List.set_cons_zero, Nat.zero_mul, Nat.zero_add]
    rw [List.set_append, if_pos (by rw [h]; exact hj), hy]
  | z :: r, k + 1, x, y, hk, hy => by
    simp only [List.getElem?_cons_succ] at hk
    have := flat_put h hj r k x y hk hy
    simp only [flat, List.flatMap_cons, List.set_cons_succ] at this ⊢
    rw [List.set_append, if_neg (by rw [h, Nat.add_mul]; omega), h, ← this]
    congr 2
    rw [Nat.add_mul]
    omega
theorem run_bs0 {T e : TypeId} {zv : Value} {sz bytes : Nat} (E : ElemOk P T e zv sz bytes) (w : World) :
    (Instr.buildSlice T 0 #[]).run P w = .ok (.slice (some ⟨w.heap.size, 0, none⟩) 0 0) (w.alloc (.cells #[] e)) := by
  obtain ⟨i, hi, h1, h2, h3⟩ := E.get
  have h0 : Array.range 0 = #[] := by simp
  simp [Instr.buildSlice, run_underlying E.sl, sizeOf, typeInfo, hi, newRow, Instr.fill, h0]
theorem Mem.row0 (M : Mem w0 w L) (e : TypeId) (sz : Nat) : Mem w0 (w.alloc (.cells #[] e)) (L ++ [.row (.slice (some ⟨w.heap.size, 0, none⟩) 0 0) e sz 0 []]) :=
  M.push _ ((Below.refl _ _).alloc (Nat.le_refl _) _) ⟨by simp, .inr ⟨w.heap.size, 0, #[], rfl, M.size, heap_alloc_new w _, Nat.le_refl _, by unfold maxLen; omega, by simp, by simp⟩⟩ (fun k hk => by
    simp only [Ent.place, Value.ownBlock, Option.some.injEq] at hk; omega)
/-- []T{}. -/
theorem Mem.ev_bs0 (M : Mem w0 w L) {T e : TypeId} {zv : Value} {sz bytes : Nat} (E : ElemOk P T e zv sz bytes) (hgd : o.guard = none) (ho : o.op = .buildSlice T 0 #[])
    (h : ∀ g w1, Mem w0 w1 (L ++ [.row (.slice (some ⟨g, 0, none⟩) 0 0) e sz 0 []]) → wpList P ops Q rest (a.put o.dst (.slice (some ⟨g, 0, none⟩) 0 0)) w1) : wpList P ops Q (o :: rest) a w := by
  refine wpList_plain hgd fun K hK => ?_
  unfold Oper.wp execOp
  have hm : (#[] : Array (Nat × Operand)).map (fun (i, x) => (i, a.eval x)) = #[] := by simp
  simp only [ho, hm, Sem.run_bind, run_bs0 E, Result.andThen_ok]
  exact hK _ _ (h _ _ (M.row0 e sz))
/-- []T{x}. -/
theorem Mem.ev_bs1 (M : Mem w0 w L) {T e : TypeId} {zv : Value} {sz bytes : Nat} (E : ElemOk P T e zv sz bytes) (hgd : o.guard = none) (x : Operand) (ho : o.op = .buildSlice T 1 #[(0, x)])
    (cs : Array Value) (hx : (a.eval x).cells = cs) (hl : cs.size = sz) (hsz : sz ≤ 2 ^ 24)
    (h : ∀ g w1, Mem w0 w1 (L ++ [.blk g e cs]) → wpList P ops Q rest (a.put o.dst (.slice (some ⟨g, 0, none⟩) 1 1)) w1) : wpList P ops Q (o :: rest) a w := by
  obtain ⟨i, hi, h1, h2, h3⟩ := E.get
  have hp := E.pos
  refine wpList_buildSlice hgd T e 1 _ ho cs i zv E.sl hi h1 (by rw [h2]; omega) (by rw [h2]; omega) ?_ ?_
  · have hc : (a.eval x).cells.size = i.size := by rw [hx, hl, h2]
    have hz : zv.cells.size = i.size := by rw [E.zs, h2]
    have := Great.fill_whole (s := i.size) (by omega) [a.eval x] ((Array.range (1 * i.size)).map (zv.cells[· % zv.cells.size]!)) (by simpa using hc) (by simp)
    simpa [hx] using this
  · exact h _ _ (M.new (Nat.le_refl _) (Blk.new w e cs) ((Below.refl _ _).alloc (Nat.le_refl _) _))
/-- append of a slice that lies somewhere, or is none. -/
theorem Mem.ev_appends (M : Mem w0 w L) (i : Nat) {T e : TypeId} {zv : Value} {sz bytes : Nat} (E : ElemOk P T e zv sz bytes) (hgd : o.guard = none) (s x : Operand)
    (ho : o.op = .call { callee := .builtin .append, args := #[s, x], argTypes := #[T, T] }) {v : Value} {n : Nat} {cs : List Value} (hL : L[i]? = some (.row v e sz n cs)) (hs : a.eval s = v)
    {A : Option Addr} {m c : Nat} (hx : a.eval x = .slice A m c) {news : List Value} (hN : Sl w sz A m news) (hA : A = none → c = 0) (hmc : m ≤ c) (h1 : ∀ u ∈ news, u.oneCell' = true)
    (hbytes : (n + m) * bytes ≤ 140737488355328) (hb0 : 0 < bytes)
    (h : ∀ v' w1, Mem w0 w1 (L.set i (.row v' e sz (n + m) (cs ++ news))) → wpList P ops Q rest (a.put o.dst v') w1) : wpList P ops Q (o :: rest) a w := by
  cases A with
  | some ad =>
    rcases Nat.eq_zero_or_pos m with hm | hm
    · subst hm
      have hn0 : news = [] := by have := hN.1; simpa using this
      subst hn0
      exact M.ev_append i E hgd s x ho hL hs hx (news := []) (by simp) (fun j u hj => by simp at hj) (by simp) hbytes hb0 h
    · obtain ⟨b, off, he, hr⟩ := hN.2 hm
      injection he with he
      subst he
      exact M.ev_append i E hgd s x ho hL hs hx (news := news) hN.1 (fun j u hj => by
        rw [show (⟨b, off, none⟩ : Addr).add j = ⟨b, off + j, none⟩ by exact Addr.add_mid _ _ _]
        exact hr j u hj) h1 hbytes hb0 h
  | none =>
    obtain rfl := hA rfl
    obtain rfl : m = 0 := by omega
    have hn0 : news = [] := by have := hN.1; simpa using this
    subst hn0
    obtain ⟨inf, hi, hz1, hz2, hz3⟩ := E.get
    have hrun := run_append_owned_none (P := P) w w0.heap.size T o.type e inf sz E.sl hi v n cs (M.row i hL)
    refine wpList_plain hgd fun K hK => ?_
    unfold Oper.wp execOp
    simp only [ho, resolve, invoke, builtin, Sem.run_bind, Sem.run_pure, Result.andThen_ok, List.map_toArray, List.map_cons, List.map_nil, hs, hx, hrun]
    refine hK _ _ (h v w ?_)
    rw [List.append_nil, Nat.add_zero, set_same hL]
    exact M
end
end Go.Proofs.Ytjkclggdaafmaaa
namespace Go.Proofs.Ytjkclggdaafmaaa
set_option linter.unusedSimpArgs false
set_option linter.unusedVariables false
open Go.RowKit

theorem Mem.nilrow {w0 w : World} {L : List Ent} (M : Mem w0 w L) (e : TypeId) (sz : Nat) : Mem w0 w (L ++ [.row (.slice none 0 0) e sz 0 []]) :=
  M.push _ (Below.refl _ _) ⟨by simp, .inl ⟨rfl, rfl⟩⟩ (fun k hk => by simp [Ent.place, Value.ownBlock] at hk)
theorem flat_one {α : Type} {enc : α → List Value} (h : ∀ x, ∀ v ∈ enc x, v.oneCell' = true) (xs : List α) : ∀ v ∈ flat enc xs, v.oneCell' = true := by
  intro v hv
  obtain ⟨x, _, hx⟩ := List.mem_flatMap.1 hv
  exact h x v hx
/-- The first ones already turned. -/
def partly {α : Type} (f : α → α) (xs : List α) (k : Nat) : List α := (xs.take k).map f ++ xs.drop k
theorem calls_args {P : Program} {f : FuncId} {args args' : Array Value} {w : World} {Q : Ending → World → Prop} (h : args = args') (H : Calls P f args w Q) : Calls P f args' w Q := h ▸ H
/-- A call hands back a row of its own, and a code. -/
def RetRowC (w : World) (T : TypeId) (sz n : Nat) (cs : List Value) (code : Int) (e : Ending) (w' : World) : Prop :=
  ∃ A c, e = .returned (.tuple #[.slice A n c, .int .i64 code]) ∧ n ≤ c ∧ Mem w w' [.row (.slice A n c) T sz n cs]
theorem Mem.row_none {w0 w : World} {L : List Ent} (M : Mem w0 w L) (i : Nat) {A : Option Addr} {m c : Nat} {e : TypeId} {sz n : Nat} {cs : List Value} (h : L[i]? = some (.row (.slice A m c) e sz n cs)) : A = none → c = 0 := by
  rintro rfl
  rcases (M.row i h).2 with ⟨h1, _⟩ | ⟨g, cap, cur, h1, _⟩
  · injection h1
  · injection h1 with h1; cases h1
theorem calls_caps {P : Program} {f : FuncId} {x : Value} {caps : List Value} {w : World} {Q : Ending → World → Prop} (h : Calls P f (x :: caps).toArray w Q) : Calls P f (#[x] ++ caps.toArray) w Q := by simpa using h
end Go.Proofs.Ytjkclggdaafmaaa
namespace Go.Proofs.Ytjkclggdaafmaaa
set_option linter.unusedSimpArgs false
set_option linter.unusedVariables false
open Go.RowKit
attribute [local go_sem] cell?_mk frozen?_mk

theorem elem_int64 : ElemOk Try.prog 49 2 (.int .i64 0) 1 8 := ⟨by kernel_rfl, by kernel_rfl, by kernel_rfl, by decide⟩
def nat64 (k : Nat) : Value := .int .i64 k
def one64 (k : Nat) : List Value := [nat64 k]
theorem one64_len (k : Nat) : (one64 k).length = 1 := rfl
/-- The cells of a field below a number. -/
def Fld.below (F : Fld) (n : Nat) : List Nat := (List.range n).filter fun (k : Nat) => F.has k
def Fld.all (F : Fld) : List Nat := F.below 100
theorem Fld.below_succ (F : Fld) (n : Nat) : F.below (n + 1) = F.below n ++ if F.has n then [n] else [] := by
  simp only [Fld.below, List.range_succ, List.filter_append]
  congr 1
  cases h : F.has n <;> simp [h]
theorem Fld.below_len (F : Fld) (n : Nat) : (F.below n).length ≤ n := by
  have := List.length_filter_le (fun (k : Nat) => F.has k) (List.range n)
  rwa [List.length_range] at this
theorem Fld.all_has {F : Fld} {k : Nat} (h : k ∈ F.all) : k < 100 ∧ F.has k = true := by
  simpa [Fld.all, Fld.below] using h

set_option maxRecDepth 100000 in
set_option maxHeartbeats 1000000 in
theorem cells_any (g : Nat) {t : TypeId} (F : Fld) (hF : F.ok) (w : World) (hb : Blk w g t F.cells) :
    Calls Try.prog 107 #[.pointer (some ⟨g, 0, none⟩)] w (RetRow w 2 1 F.all.length (flat one64 F.all)) := by
  have M := Lib.hid (Mem.start w)
  have HB := Lib.hid hb
  have HF := Lib.hid hF
  clear hb hF
  go_enter Try.func107, Try.ntmps107
  go_wp2_with (first
    | ((with_reducible refine gate_dst (N := 5) rfl ?_); go_must (refine M.out.ev_bs0 elem_int64 rfl rfl ?_); intro g5 w5 m; simp only [List.nil_append] at m; have M := Lib.hid m; clear m)
    )
  go_loopw [3, 6] (fun s v wr => ∃ k : Nat, k ≤ 100 ∧ v = .int .i64 k ∧ Mem w wr [.row s 2 1 (F.below k).length (flat one64 (F.below k))])
    (fun _ v _ => 100 - (intOf v).toNat)
  case atStart => exact ⟨0, by omega, rfl, M.out⟩
  case round =>
    clear M
    obtain ⟨k, hk, rfl, m⟩ := hrel
    have M := Lib.hid m
    clear m
    by_cases hlt : k < 100
    · have hkl := F.below_len k
      cases hq : F.has k
      · have HQ := Lib.hid hq
        clear hq
        go_wp2_with (first
          | (go_at_call 67; go_must (refine (has_any g F HF.out _ _ (M.out.arg HB.out)).mono ?_); rintro e w_ ⟨rfl, rfl⟩; rw [HQ.out])
          )
        refine ⟨⟨k + 1, by omega, by go_num, ?_⟩, by simp [intOf]; omega⟩
        rw [F.below_succ, HQ.out]
        simpa using M.out
      · have HQ := Lib.hid hq
        clear hq
        go_wp2_with (first
          | (go_at_call 67; go_must (refine (has_any g F HF.out _ _ (M.out.arg HB.out)).mono ?_); rintro e w_ ⟨rfl, rfl⟩; rw [HQ.out])
          | ((with_reducible refine gate_dst (N := 14) rfl ?_); go_must (refine M.out.ev_bs1 elem_int64 rfl _ rfl #[.int .i64 k] rfl rfl (by decide) ?_); intro g14 w14 m; simp only [List.cons_append, List.nil_append] at m; have M := Lib.hid m; clear m)
          | ((with_reducible refine gate_dst (N := 15) rfl ?_); go_must (refine M.out.ev_append1 0 1 elem_int64 rfl _ _ rfl rfl rfl rfl rfl rfl (by simp [Value.oneCell']) (by omega) (by decide) ?_); intro v15 w15 m; simp only [List.set_cons_zero] at m; have M := Lib.hid m; clear m)
          )
        refine ⟨⟨k + 1, by omega, by go_num, ?_⟩, by simp [intOf]; omega⟩
        have m := M.out.take 1
        rw [F.below_succ, HQ.out]
        simpa [flat_append, flat, one64, nat64] using m
    · obtain rfl : k = 100 := by omega
      go_wp2
      have hrow := M.out.row_slice 0 rfl
      obtain ⟨A, c, rfl, hc, _⟩ := hrow
      go_ret
      exact ⟨A, c, rfl, hc, M.out⟩
end Go.Proofs.Ytjkclggdaafmaaa
namespace Go.Proofs.Ytjkclggdaafmaaa
set_option linter.unusedSimpArgs false
set_option linter.unusedVariables false
open Go.RowKit
attribute [local go_sem] cell?_mk frozen?_mk

/-- The marks 1, 2, .. -/
def marks (n : Nat) : List Nat := (List.range n).map (· + 1)
end Go.Proofs.Ytjkclggdaafmaaa
namespace Go.Proofs.Ytjkclggdaafmaaa
set_option linter.unusedSimpArgs false
set_option linter.unusedVariables false
open Go.RowKit
attribute [local go_sem] cell?_mk frozen?_mk

def oneI (x : Int) : List Value := [.int .i64 x]
theorem oneI_len (x : Int) : (oneI x).length = 1 := rfl
theorem oneI_ones (x : Int) : ∀ v ∈ oneI x, v.oneCell' = true := by
  intro v hv
  rw [List.mem_singleton.1 hv]
  rfl
section
variable {P : Program} {ops : Array Oper} {rest : List Oper} {o : Oper} {a : Act} {w0 w : World} {Q : Exit → Act → World → Prop} {L : List Ent}
end
end Go.Proofs.Ytjkclggdaafmaaa
namespace Go.Proofs.Ytjkclggdaafmaaa
set_option linter.unusedSimpArgs false
set_option linter.unusedVariables false
open Go.RowKit
attribute [local go_sem] cell?_mk frozen?_mk

end Go.Proofs.Ytjkclggdaafmaaa
namespace Go.Proofs.Ytjkclggdaafmaaa
set_option linter.unusedSimpArgs false
set_option linter.unusedVariables false
open Go.RowKit

/-- A value that points to a variable of a type, and what lies there. -/
def Var (P : Program) (w : World) (ty : TypeId) (v : Value) (cs : Array Value) : Prop :=
  ∃ g, v = .pointer (some ⟨g, 0, none⟩) ∧ (loadVar ty ⟨g, 0, none⟩).run P w = .ok (.agg cs) w
theorem Blk.var {P : Program} {w : World} {g : Nat} {t : TypeId} {cs : Array Value} (hb : Blk w g t cs) {ty : TypeId} {d : TypeDesc} (hu : P.underlying ty = some d) (hd : (match d with | .struct _ | .array _ _ => true | _ => false) = true)
    (hi : (P.info? ty).map (·.size) = some cs.size) : Var P w ty (.pointer (some ⟨g, 0, none⟩)) cs := ⟨g, rfl, run_loadVar_row w g t ty cs (0, 0) d hb hu hd hi⟩
section
variable {P : Program} {fn : Func} {R : Ending → World → Prop} {tmps : Array Value} {w : World} {p q u x : Tmp} {ty ty' : TypeId} {cs cs' : Array Value}
theorem ret_ct (hr : fn.results = #[.cell p ty, .tmp u]) (hp : Var P w ty (tmps.getD p undef) cs) (h : R (.returned (.tuple #[.agg cs, tmps.getD u undef])) w) : bodyPost P fn R .ret { tmps := tmps, defers := [] } w := by
  obtain ⟨g, h1, h2⟩ := hp
  have h1' : tmps[p]?.getD undef = .pointer (some ⟨g, 0, none⟩) := by simpa using h1
  refine bodyPost_ret (v := .tuple #[.agg cs, tmps.getD u undef]) ?_ rfl h
  simp [results, hr, h1', asAddr, h2]
end
end Go.Proofs.Ytjkclggdaafmaaa
namespace Go.Proofs.Ytjkclggdaafmaaa
set_option linter.unusedSimpArgs false
set_option linter.unusedVariables false
open Go.RowKit
attribute [local go_sem] cell?_mk frozen?_mk

structure Cs where
  lo : Nat
  hi : Nat
structure Cs.ok (c : Cs) : Prop where
  l : c.lo < 18446744073709551616
  h : c.hi < 18446744073709551616
def Cs.vals (c : Cs) : List Value := [.int .u64 c.lo, .int .u64 c.hi]
def Cs.cells (c : Cs) : Array Value := c.vals.toArray
theorem Cs.size (c : Cs) : c.cells.size = 2 := rfl
theorem Cs.one (c : Cs) : c.cells.all (·.oneCell') = true := by simp [Cs.cells, Cs.vals, Value.oneCell']
def Cs.z : Cs := ⟨0, 0⟩
theorem Cs.z_ok : Cs.z.ok := ⟨by decide, by decide⟩
def Cs.put (c : Cs) (n : Nat) : Cs := if n < 64 then ⟨c.lo ||| 2 ^ n, c.hi⟩ else ⟨c.lo, c.hi ||| 2 ^ (n - 64)⟩
def Cs.has (c : Cs) (n : Nat) : Bool := if n < 64 then c.lo.testBit n else c.hi.testBit (n - 64)
def setOf (ks : List Nat) : Cs := ks.foldl Cs.put Cs.z
theorem setOf_snoc (ks : List Nat) (k : Nat) : setOf (ks ++ [k]) = (setOf ks).put k := by simp [setOf]
theorem pow64 {n : Nat} (h : n < 64) : 2 ^ n < 18446744073709551616 := Nat.pow_lt_pow_right (a := 2) (by omega) h
theorem or64 {a b : Nat} (ha : a < 18446744073709551616) (hb : b < 18446744073709551616) : a ||| b < 18446744073709551616 := Nat.or_lt_two_pow (n := 64) ha hb
theorem Cs.put_ok {c : Cs} (h : c.ok) {n : Nat} (hn : n < 128) : (c.put n).ok := by
  unfold Cs.put
  split
  · rename_i h1; exact ⟨or64 h.l (pow64 h1), h.h⟩
  · exact ⟨h.l, or64 h.h (pow64 (by omega))⟩
theorem setOf_ok (ks : List Nat) (h : ∀ k ∈ ks, k < 128) : (setOf ks).ok := by
  have key : ∀ (ks : List Nat) (c : Cs), c.ok → (∀ k ∈ ks, k < 128) → (ks.foldl Cs.put c).ok := by
    intro ks
    induction ks with
    | nil => intro c hc _; exact hc
    | cons k r ih => intro c hc h; exact ih _ (Cs.put_ok hc (h k (by simp))) (fun j hj => h j (by simp [hj]))
  exact key ks _ Cs.z_ok h
theorem or_pow (a n : Nat) (ha : a < 18446744073709551616) (hn : n < 64) : bits .or .u64 (a : Int) (IntKind.u64.wrap (2 ^ n)) = ((a ||| 2 ^ n : Nat) : Int) := by
  have hp := pow64 hn
  have : IntKind.u64.wrap ((2 : Int) ^ n) = ((2 ^ n : Nat) : Int) := by
    rw [IntKind.wrap_u64]
    have : ((2 : Int) ^ n) = ((2 ^ n : Nat) : Int) := by simp
    rw [this]
    generalize 2 ^ n = m at hp ⊢
    omega
  rw [this, bits_or_u64_nat a _ ha hp]

set_option maxRecDepth 100000 in
set_option maxHeartbeats 1000000 in
theorem put_any {w0 w : World} {L : List Ent} (i : Nat) (M0 : Mem w0 w L) (b : Nat) {t : TypeId} (c : Cs) (hc : c.ok) (hL : L[i]? = some (.blk b t c.cells)) (n : Nat) (hn : n < 100) :
    Calls Try.prog 81 #[.pointer (some ⟨b, 0, none⟩), .int .i64 n] w fun e w' => e = .returned (.tuple #[]) ∧ Mem w0 w' (L.set i (.blk b t (c.put n).cells)) := by
  have M := Lib.hid M0
  have HL := Lib.hid hL
  have i0 : (0 : Int) ≤ (n : Int) := by omega
  have v0 : IntKind.i64.wrap 0 = 0 := by decide
  have v1 : IntKind.i64.wrap 1 = 1 := by decide
  clear M0 hL
  by_cases h : n < 64
  · have hq : (n : Int) / 64 = 0 := by omega
    have hr : (n : Int).tmod 64 = n := by rw [Int.tmod_eq_emod_of_nonneg i0]; omega
    have c0 := M.out.cell i HL.out (j := 0) (v := .int .u64 c.lo) rfl
    have hb := or_pow c.lo n hc.l h
    have HP := Lib.hid (show c.put n = ⟨c.lo ||| 2 ^ n, c.hi⟩ by rw [Cs.put, if_pos h])
    clear h
    go_enter Try.func81, Try.ntmps81
    go_still_tail 12, (by kernel_rfl)
    have M := Lib.hid M.out.drew
    go_wp2_with (first
      | ((with_reducible refine gate_store (x := .tmp 15) rfl ?_); go_must (refine M.out.ev_put i _ _ _ rfl rfl HL.out rfl (.int .u64 ((c.lo ||| 2 ^ n : Nat) : Int)) rfl (show 0 < c.cells.size by rw [Cs.size]; omega) sz30 rfl rfl ?_); intro wn m; have M := Lib.hid m; clear m)
      )
    refine bodyPost_end (results_none rfl _ _ _) rfl ?_
    exact ⟨rfl, by rw [HP.out]; exact M.out⟩
  · obtain ⟨j, hj⟩ : ∃ j, n = 64 + j := ⟨n - 64, by omega⟩
    have hq : (n : Int) / 64 = 1 := by omega
    have hr : (n : Int).tmod 64 = (j : Int) := by rw [Int.tmod_eq_emod_of_nonneg i0]; omega
    have j0 : (0 : Int) ≤ (j : Int) := by omega
    have hm : min j 64 = j := by omega
    have c0 := M.out.cell i HL.out (j := 1) (v := .int .u64 c.hi) rfl
    have hb := or_pow c.hi j hc.h (by omega)
    have HP := Lib.hid (show c.put n = ⟨c.lo, c.hi ||| 2 ^ j⟩ by rw [Cs.put, if_neg h, hj, Nat.add_sub_cancel_left])
    clear h hj
    go_enter Try.func81, Try.ntmps81
    go_still_tail 12, (by kernel_rfl)
    have M := Lib.hid M.out.drew
    go_wp2_with (first
      | ((with_reducible refine gate_store (x := .tmp 15) rfl ?_); go_must (refine M.out.ev_put i _ _ _ rfl rfl HL.out rfl (.int .u64 ((c.hi ||| 2 ^ j : Nat) : Int)) rfl (show 1 < c.cells.size by rw [Cs.size]; omega) sz30 rfl rfl ?_); intro wn m; have M := Lib.hid m; clear m)
      )
    refine bodyPost_end (results_none rfl _ _ _) rfl ?_
    exact ⟨rfl, by rw [HP.out]; exact M.out⟩
set_option maxRecDepth 100000 in
set_option maxHeartbeats 1000000 in
theorem l01Put_any {w0 w : World} {L : List Ent} (i : Nat) (M0 : Mem w0 w L) (b : Nat) {t : TypeId} (c : Cs) (hc : c.ok) (hL : L[i]? = some (.blk b t c.cells)) (n : Nat) (hn : n < 100) :
    Calls Try.prog 55 #[.pointer (some ⟨b, 0, none⟩), .int .i64 n] w fun e w' => e = .returned (.tuple #[]) ∧ Mem w0 w' (L.set i (.blk b t (c.put n).cells)) := by
  have M := Lib.hid M0
  have HL := Lib.hid hL
  have i0 : (0 : Int) ≤ (n : Int) := by omega
  have v0 : IntKind.i64.wrap 0 = 0 := by decide
  have v1 : IntKind.i64.wrap 1 = 1 := by decide
  clear M0 hL
  by_cases h : n < 64
  · have hq : (n : Int) / 64 = 0 := by omega
    have hr : (n : Int).tmod 64 = n := by rw [Int.tmod_eq_emod_of_nonneg i0]; omega
    have hu : IntKind.u64.wrap (n : Int) = n := IntWalk.u64_in _ (by omega)
    have hm : min n 64 = n := by omega
    have c0 := M.out.cell i HL.out (j := 0) (v := .int .u64 c.lo) rfl
    have hb := or_pow c.lo n hc.l h
    have HP := Lib.hid (show c.put n = ⟨c.lo ||| 2 ^ n, c.hi⟩ by rw [Cs.put, if_pos h])
    clear h
    go_enter Try.func55, Try.ntmps55
    go_still_tail 13, (by kernel_rfl)
    have M := Lib.hid M.out.drew
    go_wp2_with (first
      | ((with_reducible refine gate_store (x := .tmp 16) rfl ?_); go_must (refine M.out.ev_put i _ _ _ rfl rfl HL.out rfl (.int .u64 ((c.lo ||| 2 ^ n : Nat) : Int)) rfl (show 0 < c.cells.size by rw [Cs.size]; omega) sz30 rfl rfl ?_); intro wn m; have M := Lib.hid m; clear m)
      )
    refine bodyPost_end (results_none rfl _ _ _) rfl ?_
    exact ⟨rfl, by rw [HP.out]; exact M.out⟩
  · obtain ⟨j, hj⟩ : ∃ j, n = 64 + j := ⟨n - 64, by omega⟩
    have hq : (n : Int) / 64 = 1 := by omega
    have hr : (n : Int).tmod 64 = (j : Int) := by rw [Int.tmod_eq_emod_of_nonneg i0]; omega
    have j0 : (0 : Int) ≤ (j : Int) := by omega
    have hm : min j 64 = j := by omega
    have hu : IntKind.u64.wrap (j : Int) = j := IntWalk.u64_in _ (by omega)
    have c0 := M.out.cell i HL.out (j := 1) (v := .int .u64 c.hi) rfl
    have hb := or_pow c.hi j hc.h (by omega)
    have HP := Lib.hid (show c.put n = ⟨c.lo, c.hi ||| 2 ^ j⟩ by rw [Cs.put, if_neg h, hj, Nat.add_sub_cancel_left])
    clear h hj
    go_enter Try.func55, Try.ntmps55
    go_still_tail 13, (by kernel_rfl)
    have M := Lib.hid M.out.drew
    go_wp2_with (first
      | ((with_reducible refine gate_store (x := .tmp 16) rfl ?_); go_must (refine M.out.ev_put i _ _ _ rfl rfl HL.out rfl (.int .u64 ((c.hi ||| 2 ^ j : Nat) : Int)) rfl (show 1 < c.cells.size by rw [Cs.size]; omega) sz30 rfl rfl ?_); intro wn m; have M := Lib.hid m; clear m)
      )
    refine bodyPost_end (results_none rfl _ _ _) rfl ?_
    exact ⟨rfl, by rw [HP.out]; exact M.out⟩
end Go.Proofs.Ytjkclggdaafmaaa
