/- Slices that grow: literals of none and of one element, 'append' of whatever slice. No program. -/
import Derived.Test.YtaepgjjmfopiiaaDoorSl
import Derived.Great.BuildSlice
import Derived.Laws.OwnMore
namespace Go.Proofs.YtaepgjjmfopiiaaDoor
set_option linter.unusedSimpArgs false
set_option linter.unusedVariables false
open Go.RowKit

section
variable {P : Program} {ops : Array Oper} {rest : List Oper} {o : Oper} {a : Act} {w0 w : World} {Q : Exit → Act → World → Prop} {L : List Ent}
theorem set_same {α : Type} {L : List α} {i : Nat} {x : α} (h : L[i]? = some x) : L.set i x = L := by
  apply List.ext_getElem?
  intro j
  rw [List.getElem?_set]
  split
  · rename_i hij
    subst hij
    rw [if_pos (List.getElem?_eq_some_iff.1 h).1, h]
  · rfl
/-- One cell of one element exchanged. -/
theorem flat_put {α : Type} {enc : α → List Value} {sz : Nat} (h : ∀ x, (enc x).length = sz) {j : Nat} (hj : j < sz) {v : Value} : ∀ (xs : List α) (k : Nat) (x y : α), xs[k]? = some x → enc y = (enc x).set j v → (flat enc xs).set (k * sz + j) v = flat enc (xs.set k y)
  | [], k, x, y, hk, _ => by simp at hk
  | z :: r, 0, x, y, hk, hy => by
    simp only [List.getElem?_cons_zero, Option.some.injEq] at hk
    subst hk
    simp only [flat, List.flatMap_cons, List.set_cons_zero, Nat.zero_mul, Nat.zero_add]
    rw [List.set_append, if_pos (by rw [h]; exact hj), hy]
  | z :: r, k + 1, x, y, hk, hy => by
    simp only [List.getElem?_cons_succ] at hk
    have := flat_put h hj r k x y hk hy
    simp only [flat, List.flatMap_cons, List.set_cons_succ] at this ⊢
    rw [List.set_append, if_neg (by rw [h, Nat.add_mul]; omega), h, ← this]
    congr 2
    rw [Nat.add_mul]
    omega
theorem run_bs0 {T e : TypeId} {zv : Value} {sz bytes : Nat} (E : ElemOk P T e zv sz bytes) (w : World) :
    (Instr.buildSlice T 0 #[]).run P w = .ok (.slice (some ⟨w.heap.size, 0, none⟩) 0 0) (w.alloc (.cells #[] e)) := by
  obtain ⟨i, hi, h1, h2, h3⟩ := E.get
  have h0 : Array.range 0 = #[] := by simp
  simp [Instr.buildSlice, run_underlying E.sl, sizeOf, typeInfo, hi, newRow, Instr.fill, h0]
theorem Mem.row0 (M : Mem w0 w L) (e : TypeId) (sz : Nat) : Mem w0 (w.alloc (.cells #[] e)) (L ++ [.row (.slice (some ⟨w.heap.size, 0, none⟩) 0 0) e sz 0 []]) :=
  M.push _ ((Below.refl _ _).alloc (Nat.le_refl _) _) ⟨by simp, .inr ⟨w.heap.size, 0, #[], rfl, M.size, heap_alloc_new w _, Nat.le_refl _, by unfold maxLen; omega, by simp, by simp⟩⟩ (fun k hk => by
    simp only [Ent.place, Value.ownBlock, Option.some.injEq] at hk; omega)
/-- []T{}. -/
theorem Mem.ev_bs0 (M : Mem w0 w L) {T e : TypeId} {zv : Value} {sz bytes : Nat} (E : ElemOk P T e zv sz bytes) (hgd : o.guard = none) (ho : o.op = .buildSlice T 0 #[])
    (h : ∀ g w1, Mem w0 w1 (L ++ [.row (.slice (some ⟨g, 0, none⟩) 0 0) e sz 0 []]) → wpList P ops Q rest (a.put o.dst (.slice (some ⟨g, 0, none⟩) 0 0)) w1) : wpList P ops Q (o :: rest) a w := by
  refine wpList_plain hgd fun K hK => ?_
  unfold Oper.wp execOp
  have hm : (#[] : Array (Nat × Operand)).map (fun (i, x) => (i, a.eval x)) = #[] := by simp
  simp only [ho, hm, Sem.run_bind, run_bs0 E, Result.andThen_ok]
  exact hK _ _ (h _ _ (M.row0 e sz))
/-- []T{x}. -/
theorem Mem.ev_bs1 (M : Mem w0 w L) {T e : TypeId} {zv : Value} {sz bytes : Nat} (E : ElemOk P T e zv sz bytes) (hgd : o.guard = none) (x : Operand) (ho : o.op = .buildSlice T 1 #[(0, x)])
    (cs : Array Value) (hx : (a.eval x).cells = cs) (hl : cs.size = sz) (hsz : sz ≤ 2 ^ 24)
    (h : ∀ g w1, Mem w0 w1 (L ++ [.blk g e cs]) → wpList P ops Q rest (a.put o.dst (.slice (some ⟨g, 0, none⟩) 1 1)) w1) : wpList P ops Q (o :: rest) a w := by
  obtain ⟨i, hi, h1, h2, h3⟩ := E.get
  have hp := E.pos
  refine wpList_buildSlice hgd T e 1 _ ho cs i zv E.sl hi h1 (by rw [h2]; omega) (by rw [h2]; omega) ?_ ?_
  · have hc : (a.eval x).cells.size = i.size := by rw [hx, hl, h2]
    have hz : zv.cells.size = i.size := by rw [E.zs, h2]
    have := Great.fill_whole (s := i.size) (by omega) [a.eval x] ((Array.range (1 * i.size)).map (zv.cells[· % zv.cells.size]!)) (by simpa using hc) (by simp)
    simpa [hx] using this
  · exact h _ _ (M.new (Nat.le_refl _) (Blk.new w e cs) ((Below.refl _ _).alloc (Nat.le_refl _) _))
/-- append of a slice that lies somewhere, or is none. -/
theorem Mem.ev_appends (M : Mem w0 w L) (i : Nat) {T e : TypeId} {zv : Value} {sz bytes : Nat} (E : ElemOk P T e zv sz bytes) (hgd : o.guard = none) (s x : Operand)
    (ho : o.op = .call { callee := .builtin .append, args := #[s, x], argTypes := #[T, T] }) {v : Value} {n : Nat} {cs : List Value} (hL : L[i]? = some (.row v e sz n cs)) (hs : a.eval s = v)
    {A : Option Addr} {m c : Nat} (hx : a.eval x = .slice A m c) {news : List Value} (hN : Sl w sz A m news) (hA : A = none → c = 0) (hmc : m ≤ c) (h1 : ∀ u ∈ news, u.oneCell' = true)
    (hbytes : (n + m) * bytes ≤ 140737488355328) (hb0 : 0 < bytes)
    (h : ∀ v' w1, Mem w0 w1 (L.set i (.row v' e sz (n + m) (cs ++ news))) → wpList P ops Q rest (a.put o.dst v') w1) : wpList P ops Q (o :: rest) a w := by
  cases A with
  | some ad =>
    rcases Nat.eq_zero_or_pos m with hm | hm
    · subst hm
      have hn0 : news = [] := by have := hN.1; simpa using this
      subst hn0
      exact M.ev_append i E hgd s x ho hL hs hx (news := []) (by simp) (fun j u hj => by simp at hj) (by simp) hbytes hb0 h
    · obtain ⟨b, off, he, hr⟩ := hN.2 hm
      injection he with he
      subst he
      exact M.ev_append i E hgd s x ho hL hs hx (news := news) hN.1 (fun j u hj => by
        rw [show (⟨b, off, none⟩ : Addr).add j = ⟨b, off + j, none⟩ by exact Addr.add_mid _ _ _]
        exact hr j u hj) h1 hbytes hb0 h
  | none =>
    obtain rfl := hA rfl
    obtain rfl : m = 0 := by omega
    have hn0 : news = [] := by have := hN.1; simpa using this
    subst hn0
    obtain ⟨inf, hi, hz1, hz2, hz3⟩ := E.get
    have hrun := run_append_owned_none (P := P) w w0.heap.size T o.type e inf sz E.sl hi v n cs (M.row i hL)
    refine wpList_plain hgd fun K hK => ?_
    unfold Oper.wp execOp
    simp only [ho, resolve, invoke, builtin, Sem.run_bind, Sem.run_pure, Result.andThen_ok, List.map_toArray, List.map_cons, List.map_nil, hs, hx, hrun]
    refine hK _ _ (h v w ?_)
    rw [List.append_nil, Nat.add_zero, set_same hL]
    exact M
end
end Go.Proofs.YtaepgjjmfopiiaaDoor
