/- Texts of a proof, laid together: Conf0, Plot, Grow, Gen, PlotM. -/
import Derived.Test.YtdnofkngljjbmaaZP06
import Derived.Test.YtdnofkngljjbmaaZP02
import Derived.Test.YtdnofkngljjbmaaZP04
import Derived.Great.BuildSlice
import Derived.Laws.OwnMore
namespace Go.Proofs.Ytdnofkngljjbmaa
set_option linter.unusedSimpArgs false
set_option linter.unusedVariables false
open Go.ChangeShapes Go.WideShapes Go.RowKit Go.Deep

theorem Conf.cons {k : IntKind} {ks : List IntKind} {cs : List Value} (h : Conf (k :: ks) cs) : ∃ n r, cs = Value.int k n :: r ∧ (Lit.int k n).wf = true ∧ Conf ks r := by
  obtain ⟨n, h1, h2⟩ := h.2 0 k rfl
  cases cs with
  | nil => cases h1
  | cons v r =>
    simp only [List.getElem?_cons_zero, Option.some.injEq] at h1
    subst h1
    refine ⟨n, r, rfl, h2, by simpa using h.1, fun i k' hk => ?_⟩
    obtain ⟨m, h3, h4⟩ := h.2 (i + 1) k' (by simpa using hk)
    exact ⟨m, by simpa using h3, h4⟩
theorem Conf.nil_eq {cs : List Value} (h : Conf [] cs) : cs = [] := List.length_eq_zero_iff.1 (by simpa using h.1)
theorem Conf.reps {k : IntKind} {n : Nat} {ks : List IntKind} {cs : List Value} (h : Conf (List.replicate n k ++ ks) cs) :
    ∃ (xs : List Int) (r : List Value), cs = xs.map (Value.int k) ++ r ∧ xs.length = n ∧ (∀ x ∈ xs, (Lit.int k x).wf = true) ∧ Conf ks r := by
  induction n generalizing cs with
  | zero => exact ⟨[], cs, rfl, rfl, by simp, by simpa using h⟩
  | succ n ih =>
    rw [List.replicate_succ, List.cons_append] at h
    obtain ⟨x, r, rfl, hw, hr⟩ := h.cons
    obtain ⟨xs, r', rfl, hl, hx, hr'⟩ := ih hr
    refine ⟨x :: xs, r', by simp, by simp [hl], fun y hy => ?_, hr'⟩
    rcases List.mem_cons.1 hy with rfl | hy
    · exact hw
    · exact hx y hy
end Go.Proofs.Ytdnofkngljjbmaa
namespace Go.Proofs.Ytdnofkngljjbmaa
set_option linter.unusedSimpArgs false
set_option linter.unusedVariables false
open Go.RowKit
structure Plot where
  seeds : Int
  ripe : Int
  keep : Int
  loss : Int
  deriving DecidableEq
def Plot.vals (x : Plot) : List Value := [.int .i16 x.seeds, .int .i16 x.ripe, .int .i16 x.keep, .int .i16 x.loss]
theorem Plot.vl (x : Plot) : x.vals.length = 4 := rfl
theorem Plot.one (x : Plot) : x.vals.toArray.all (·.oneCell') = true := by simp [Plot.vals, Value.oneCell']
structure Plot.ok (x : Plot) : Prop where
  seeds : -32768 ≤ x.seeds ∧ x.seeds ≤ 32767
  ripe : -32768 ≤ x.ripe ∧ x.ripe ≤ 32767
  keep : -32768 ≤ x.keep ∧ x.keep ≤ 32767
  loss : -32768 ≤ x.loss ∧ x.loss ≤ 32767
def Plot.z : Plot := ⟨0, 0, 0, 0⟩
theorem elem_Plot : ElemOk Try.prog 24 40 (.agg Plot.z.vals.toArray) 4 8 := ⟨by kernel_rfl, by kernel_rfl, by kernel_rfl, by decide⟩
def Plot.ks : List IntKind := [.i16, .i16, .i16, .i16]
theorem Plot.of_conf (cs : List Value) (h : Conf Plot.ks cs) : ∃ x : Plot, x.ok ∧ x.vals = cs := by
  obtain ⟨e0, r, rfl, w0, h⟩ := h.cons
  obtain ⟨e1, r, rfl, w1, h⟩ := h.cons
  obtain ⟨e2, r, rfl, w2, h⟩ := h.cons
  obtain ⟨e3, r, rfl, w3, h⟩ := h.cons
  obtain rfl := h.nil_eq
  exact ⟨⟨e0, e1, e2, e3⟩, ⟨bounds_i16 w0, bounds_i16 w1, bounds_i16 w2, bounds_i16 w3⟩, rfl⟩
end Go.Proofs.Ytdnofkngljjbmaa
namespace Go.Proofs.Ytdnofkngljjbmaa
set_option linter.unusedSimpArgs false
set_option linter.unusedVariables false
open Go.RowKit

section
variable {P : Program} {ops : Array Oper} {rest : List Oper} {o : Oper} {a : Act} {w0 w : World} {Q : Exit → Act → World → Prop} {L : List Ent}
theorem set_same {α : Type} {L : List α} {i : Nat} {x : α} (h : L[i]? = some x) : L.set i x = L := by
  apply List.ext_getElem?
  intro j
  rw [List.getElem?_set]
  split
  · rename_i hij
    subst hij
    rw [if_pos (List.getElem?_eq_some_iff.1 h).1, h]
  · rfl
/-- One cell of one element exchanged. -/
theorem flat_put {α : Type} {enc : α → List Value} {sz : Nat} (h : ∀ x, (enc x).length = sz) {j : Nat} (hj : j < sz) {v : Value} : ∀ (xs : List α) (k : Nat) (x y : α), xs[k]? = some x → enc y = (enc x).set j v → (flat enc xs).set (k * sz + j) v = flat enc (xs.set k y)
  | [], k, x, y, hk, _ => by simp at hk
  | z :: r, 0, x, y, hk, hy => by
    simp only [List.getElem?_cons_zero, Option.some.injEq] at hk
    subst hk
    simp only [flat, List.flatMap_cons, List.set_cons_zero, Nat.zero_mul, Nat.zero_add]
    rw [List.set_append, if_pos (by rw [h]; exact hj), hy]
  | z :: r, k + 1, x, y, hk, hy => by
    simp only [List.getElem?_cons_succ] at hk
    have := flat_put h hj r k x y hk hy
    simp only [flat, List.flatMap_cons, List.set_cons_succ] at this ⊢
    rw [List.set_append, if_neg (by rw [h, Nat.add_mul]; omega), h, ← this]
    congr 2
    rw [Nat.add_mul]
    omega
theorem run_bs0 {T e : TypeId} {zv : Value} {sz bytes : Nat} (E : ElemOk P T e zv sz bytes) (w : World) :
    (Instr.buildSlice T 0 #[]).run P w = .ok (.slice (some ⟨w.heap.size, 0, none⟩) 0 0) (w.alloc (.cells #[] e)) := by
  obtain ⟨i, hi, h1, h2, h3⟩ := E.get
  have h0 : Array.range 0 = #[] := by simp
  simp [Instr.buildSlice, run_underlying E.sl, sizeOf, typeInfo, hi, newRow, Instr.fill, h0]
theorem Mem.row0 (M : Mem w0 w L) (e : TypeId) (sz : Nat) : Mem w0 (w.alloc (.cells #[] e)) (L ++ [.row (.slice (some ⟨w.heap.size, 0, none⟩) 0 0) e sz 0 []]) :=
  M.push _ ((Below.refl _ _).alloc (Nat.le_refl _) _) ⟨by simp, .inr ⟨w.heap.size, 0, #[], rfl, M.size, heap_alloc_new w _, Nat.le_refl _, by unfold maxLen; omega, by simp, by simp⟩⟩ (fun k hk => by
    simp only [Ent.place, Value.ownBlock, Option.some.injEq] at hk; omega)
/-- []T{}. -/
theorem Mem.ev_bs0 (M : Mem w0 w L) {T e : TypeId} {zv : Value} {sz bytes : Nat} (E : ElemOk P T e zv sz bytes) (hgd : o.guard = none) (ho : o.op = .buildSlice T 0 #[])
    (h : ∀ g w1, Mem w0 w1 (L ++ [.row (.slice (some ⟨g, 0, none⟩) 0 0) e sz 0 []]) → wpList P ops Q rest (a.put o.dst (.slice (some ⟨g, 0, none⟩) 0 0)) w1) : wpList P ops Q (o :: rest) a w := by
  refine wpList_plain hgd fun K hK => ?_
  unfold Oper.wp execOp
  have hm : (#[] : Array (Nat × Operand)).map (fun (i, x) => (i, a.eval x)) = #[] := by simp
  simp only [ho, hm, Sem.run_bind, run_bs0 E, Result.andThen_ok]
  exact hK _ _ (h _ _ (M.row0 e sz))
/-- []T{x}. -/
theorem Mem.ev_bs1 (M : Mem w0 w L) {T e : TypeId} {zv : Value} {sz bytes : Nat} (E : ElemOk P T e zv sz bytes) (hgd : o.guard = none) (x : Operand) (ho : o.op = .buildSlice T 1 #[(0, x)])
    (cs : Array Value) (hx : (a.eval x).cells = cs) (hl : cs.size = sz) (hsz : sz ≤ 2 ^ 24)
    (h : ∀ g w1, Mem w0 w1 (L ++ [.blk g e cs]) → wpList P ops Q rest (a.put o.dst (.slice (some ⟨g, 0, none⟩) 1 1)) w1) : wpList P ops Q (o :: rest) a w := by
  obtain ⟨i, hi, h1, h2, h3⟩ := E.get
  have hp := E.pos
  refine wpList_buildSlice hgd T e 1 _ ho cs i zv E.sl hi h1 (by rw [h2]; omega) (by rw [h2]; omega) ?_ ?_
  · have hc : (a.eval x).cells.size = i.size := by rw [hx, hl, h2]
    have hz : zv.cells.size = i.size := by rw [E.zs, h2]
    have := Great.fill_whole (s := i.size) (by omega) [a.eval x] ((Array.range (1 * i.size)).map (zv.cells[· % zv.cells.size]!)) (by simpa using hc) (by simp)
    simpa [hx] using this
  · exact h _ _ (M.new (Nat.le_refl _) (Blk.new w e cs) ((Below.refl _ _).alloc (Nat.le_refl _) _))
/-- append of a slice that lies somewhere, or is none. -/
theorem Mem.ev_appends (M : Mem w0 w L) (i : Nat) {T e : TypeId} {zv : Value} {sz bytes : Nat} (E : ElemOk P T e zv sz bytes) (hgd : o.guard = none) (s x : Operand)
    (ho : o.op = .call { callee := .builtin .append, args := #[s, x], argTypes := #[T, T] }) {v : Value} {n : Nat} {cs : List Value} (hL : L[i]? = some (.row v e sz n cs)) (hs : a.eval s = v)
    {A : Option Addr} {m c : Nat} (hx : a.eval x = .slice A m c) {news : List Value} (hN : Sl w sz A m news) (hA : A = none → c = 0) (hmc : m ≤ c) (h1 : ∀ u ∈ news, u.oneCell' = true)
    (hbytes : (n + m) * bytes ≤ 140737488355328) (hb0 : 0 < bytes)
    (h : ∀ v' w1, Mem w0 w1 (L.set i (.row v' e sz (n + m) (cs ++ news))) → wpList P ops Q rest (a.put o.dst v') w1) : wpList P ops Q (o :: rest) a w := by
  cases A with
  | some ad =>
    rcases Nat.eq_zero_or_pos m with hm | hm
    · subst hm
      have hn0 : news = [] := by have := hN.1; simpa using this
      subst hn0
      exact M.ev_append i E hgd s x ho hL hs hx (news := []) (by simp) (fun j u hj => by simp at hj) (by simp) hbytes hb0 h
    · obtain ⟨b, off, he, hr⟩ := hN.2 hm
      injection he with he
      subst he
      exact M.ev_append i E hgd s x ho hL hs hx (news := news) hN.1 (fun j u hj => by
        rw [show (⟨b, off, none⟩ : Addr).add j = ⟨b, off + j, none⟩ by exact Addr.add_mid _ _ _]
        exact hr j u hj) h1 hbytes hb0 h
  | none =>
    obtain rfl := hA rfl
    obtain rfl : m = 0 := by omega
    have hn0 : news = [] := by have := hN.1; simpa using this
    subst hn0
    obtain ⟨inf, hi, hz1, hz2, hz3⟩ := E.get
    have hrun := run_append_owned_none (P := P) w w0.heap.size T o.type e inf sz E.sl hi v n cs (M.row i hL)
    refine wpList_plain hgd fun K hK => ?_
    unfold Oper.wp execOp
    simp only [ho, resolve, invoke, builtin, Sem.run_bind, Sem.run_pure, Result.andThen_ok, List.map_toArray, List.map_cons, List.map_nil, hs, hx, hrun]
    refine hK _ _ (h v w ?_)
    rw [List.append_nil, Nat.add_zero, set_same hL]
    exact M
end
end Go.Proofs.Ytdnofkngljjbmaa
namespace Go.Proofs.Ytdnofkngljjbmaa
set_option linter.unusedSimpArgs false
set_option linter.unusedVariables false
open Go.RowKit

theorem Mem.row_range {w0 w : World} {L : List Ent} (M : Mem w0 w L) (i : Nat) {g cap : Nat} {e : TypeId} {sz n : Nat} {cs : List Value} (h : L[i]? = some (.row (.slice (some ⟨g, 0, none⟩) n cap) e sz n cs)) : w.rangeAt g 0 cs :=
  fun j u hu => by rw [Nat.zero_add]; exact M.row_cell i h hu
theorem Mem.nilrow {w0 w : World} {L : List Ent} (M : Mem w0 w L) (e : TypeId) (sz : Nat) : Mem w0 w (L ++ [.row (.slice none 0 0) e sz 0 []]) :=
  M.push _ (Below.refl _ _) ⟨by simp, .inl ⟨rfl, rfl⟩⟩ (fun k hk => by simp [Ent.place, Value.ownBlock] at hk)
theorem flat_one {α : Type} {enc : α → List Value} (h : ∀ x, ∀ v ∈ enc x, v.oneCell' = true) (xs : List α) : ∀ v ∈ flat enc xs, v.oneCell' = true := by
  intro v hv
  obtain ⟨x, _, hx⟩ := List.mem_flatMap.1 hv
  exact h x v hx
/-- The first ones already turned. -/
def partly {α : Type} (f : α → α) (xs : List α) (k : Nat) : List α := (xs.take k).map f ++ xs.drop k
theorem partly_0 {α : Type} (f : α → α) (xs : List α) : partly f xs 0 = xs := by simp [partly]
theorem partly_all {α : Type} (f : α → α) (xs : List α) : partly f xs xs.length = xs.map f := by simp [partly]
theorem partly_at {α : Type} (f : α → α) {xs : List α} {k : Nat} (hk : k < xs.length) : (partly f xs k)[k]? = some xs[k] := by
  rw [partly, List.getElem?_append_right (by rw [List.length_map, List.length_take]; omega), List.length_map, List.length_take, Nat.min_eq_left (by omega), Nat.sub_self, List.getElem?_drop]
  simp [hk]
theorem partly_set {α : Type} (f : α → α) {xs : List α} {k : Nat} (hk : k < xs.length) : (partly f xs k).set k (f xs[k]) = partly f xs (k + 1) := by
  rw [partly, partly, List.set_append, if_neg (by rw [List.length_map, List.length_take]; omega), List.length_map, List.length_take, Nat.min_eq_left (by omega), Nat.sub_self, List.take_succ_eq_append_getElem hk]
  rw [List.drop_eq_getElem_cons hk]
  simp only [List.map_append, List.map_cons, List.map_nil, List.set_cons_zero, List.append_assoc, List.cons_append, List.nil_append]
theorem partly_len {α : Type} (f : α → α) (xs : List α) (k : Nat) : (partly f xs k).length = xs.length := by
  simp only [partly, List.length_append, List.length_map, List.length_take, List.length_drop]
  omega
theorem calls_args {P : Program} {f : FuncId} {args args' : Array Value} {w : World} {Q : Ending → World → Prop} (h : args = args') (H : Calls P f args w Q) : Calls P f args' w Q := h ▸ H
/-- A call hands back a row of its own, and a code. -/
def RetRowC (w : World) (T : TypeId) (sz n : Nat) (cs : List Value) (code : Int) (e : Ending) (w' : World) : Prop :=
  ∃ A c, e = .returned (.tuple #[.slice A n c, .int .i64 code]) ∧ n ≤ c ∧ Mem w w' [.row (.slice A n c) T sz n cs]
theorem Mem.row_none {w0 w : World} {L : List Ent} (M : Mem w0 w L) (i : Nat) {A : Option Addr} {m c : Nat} {e : TypeId} {sz n : Nat} {cs : List Value} (h : L[i]? = some (.row (.slice A m c) e sz n cs)) : A = none → c = 0 := by
  rintro rfl
  rcases (M.row i h).2 with ⟨h1, _⟩ | ⟨g, cap, cur, h1, _⟩
  · injection h1
  · injection h1 with h1; cases h1
theorem calls_caps {P : Program} {f : FuncId} {x : Value} {caps : List Value} {w : World} {Q : Ending → World → Prop} (h : Calls P f (x :: caps).toArray w Q) : Calls P f (#[x] ++ caps.toArray) w Q := by simpa using h
end Go.Proofs.Ytdnofkngljjbmaa
namespace Go.Proofs.Ytdnofkngljjbmaa
set_option linter.unusedSimpArgs false
set_option linter.unusedVariables false
open Go.RowKit
attribute [local go_sem] cell?_mk frozen?_mk

theorem Plot.ones (x : Plot) : ∀ v ∈ x.vals, v.oneCell' = true := by
  intro v hv
  simp only [Plot.vals, List.mem_cons, List.not_mem_nil, or_false] at hv
  rcases hv with rfl | rfl | rfl | rfl <;> rfl
def markPlot (k : Int) (i : Nat) : Plot := ⟨IntKind.i16.wrap (k + 4 * i), IntKind.i16.wrap (k + 4 * i + 1), IntKind.i16.wrap (k + 4 * i + 1 + 1), IntKind.i16.wrap (k + 4 * i + 1 + 1 + 1)⟩
def marksPlot (k : Int) (n : Nat) : List Plot := (List.range n).map (markPlot k)
theorem marksPlot_len (k : Int) (n : Nat) : (marksPlot k n).length = n := by simp [marksPlot]
theorem marksPlot_at {k : Int} {n i : Nat} (h : i < n) : (marksPlot k n)[i]? = some (markPlot k i) := by simp [marksPlot, h]
def mixPlot (k : Int) (xs : List Plot) (i : Nat) : List Plot := (List.range i).map (markPlot k) ++ xs.drop i
theorem mixPlot_len (k : Int) (xs : List Plot) (i : Nat) (h : i ≤ xs.length) : (mixPlot k xs i).length = xs.length := by simp [mixPlot]; omega
theorem mixPlot_at (k : Int) {xs : List Plot} {i : Nat} (h : i < xs.length) : (mixPlot k xs i)[i]? = some xs[i] := by
  rw [mixPlot, List.getElem?_append_right (by simp), List.length_map, List.length_range, Nat.sub_self, List.getElem?_drop]
  simp [h]
theorem mixPlot_set (k : Int) {xs : List Plot} {i : Nat} (h : i < xs.length) : (mixPlot k xs i).set i (markPlot k i) = mixPlot k xs (i + 1) := by
  rw [mixPlot, mixPlot, List.set_append, if_neg (by simp), List.length_map, List.length_range, Nat.sub_self, List.range_succ, List.map_append, List.drop_eq_getElem_cons h]
  simp only [List.set_cons_zero, List.map_cons, List.map_nil, List.append_assoc, List.cons_append, List.nil_append]
theorem mixPlot_0 (k : Int) (xs : List Plot) : mixPlot k xs 0 = xs := by simp [mixPlot]
theorem mixPlot_all (k : Int) (xs : List Plot) : mixPlot k xs xs.length = marksPlot k xs.length := by simp [mixPlot, marksPlot]
theorem flat_putPlot {xs : List Plot} {k : Nat} {x y : Plot} (hk : xs[k]? = some x) :
    (((((flat Plot.vals xs).set (k * 4) (.int .i16 y.seeds)).set (k * 4 + 1) (.int .i16 y.ripe)).set (k * 4 + 2) (.int .i16 y.keep)).set (k * 4 + 3) (.int .i16 y.loss)) = flat Plot.vals (xs.set k y) := by
  have hl : k < xs.length := (List.getElem?_eq_some_iff.1 hk).1
  have h0 := flat_put Plot.vl (by decide : 0 < 4) (v := .int .i16 y.seeds) xs k x ⟨y.seeds, x.ripe, x.keep, x.loss⟩ hk rfl
  have h1 := flat_put Plot.vl (by decide : 1 < 4) (v := .int .i16 y.ripe) (xs.set k ⟨y.seeds, x.ripe, x.keep, x.loss⟩) k ⟨y.seeds, x.ripe, x.keep, x.loss⟩ ⟨y.seeds, y.ripe, x.keep, x.loss⟩ (by rw [List.getElem?_set_self hl]) rfl
  have h2 := flat_put Plot.vl (by decide : 2 < 4) (v := .int .i16 y.keep) (xs.set k ⟨y.seeds, y.ripe, x.keep, x.loss⟩) k ⟨y.seeds, y.ripe, x.keep, x.loss⟩ ⟨y.seeds, y.ripe, y.keep, x.loss⟩ (by rw [List.getElem?_set_self hl]) rfl
  have h3 := flat_put Plot.vl (by decide : 3 < 4) (v := .int .i16 y.loss) (xs.set k ⟨y.seeds, y.ripe, y.keep, x.loss⟩) k ⟨y.seeds, y.ripe, y.keep, x.loss⟩ y (by rw [List.getElem?_set_self hl]) rfl
  rw [List.set_set] at h1 h2 h3
  rw [Nat.add_zero] at h0
  rw [h0, h1, h2, h3]
end Go.Proofs.Ytdnofkngljjbmaa
