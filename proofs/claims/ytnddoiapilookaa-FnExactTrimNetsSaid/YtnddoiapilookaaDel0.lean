/- Rows seen as shorter ones, cells cleared, appending within one's own row. No program. -/
import Derived.Test.YtnddoiapilookaaGen
import Derived.Test.YtnddoiapilookaaDrawn3
namespace Go.Proofs.Ytnddoiapilookaa
set_option linter.unusedSimpArgs false
set_option linter.unusedVariables false
open Go.RowKit
attribute [local go_sem] cell?_mk frozen?_mk

section
variable {P : Program} {ops : Array Oper} {rest : List Oper} {o : Oper} {a : Act} {w0 w : World} {Q : Exit → Act → World → Prop} {L : List Ent}
/-- A row, seen as a shorter one. -/
theorem Mem.row_less (M : Mem w0 w L) (i : Nat) {A : Option Addr} {c : Nat} {e : TypeId} {sz n : Nat} {cs : List Value} (h : L[i]? = some (.row (.slice A n c) e sz n cs)) (k : Nat) (hk : k ≤ n) :
    Mem w0 w (L.set i (.row (.slice A k c) e sz k (cs.take (k * sz)))) := by
  have hl := M.row_len i h
  have hkn : k * sz ≤ n * sz := Nat.mul_le_mul_right _ hk
  refine M.change i h M.below ⟨by rw [List.length_take, hl]; omega, ?_⟩ (fun _ _ _ => rfl) (fun j hj => .inl (by cases A <;> exact hj))
  rcases (M.row i h).2 with ⟨h1, h2⟩ | ⟨g, cap, cur, h1, hb, hg, hc, hm, hs, ht⟩
  · injection h1 with e1 e2 e3
    exact .inl ⟨by rw [e1, e3, show k = 0 by omega], by omega⟩
  · injection h1 with e1 e2 e3
    exact .inr ⟨g, c, cur, by rw [e1], hb, hg, by omega, by omega, by rw [e3]; exact hs, by rw [← ht, List.take_take, Nat.min_eq_left hkn]⟩
/-- A row, seen as one of one more element: what lies there is not known. -/
theorem Mem.row_more (M : Mem w0 w L) (i : Nat) {g c : Nat} {e : TypeId} {sz m : Nat} {cs : List Value} (h : L[i]? = some (.row (.slice (some ⟨g, 0, none⟩) m c) e sz m cs)) (hm1 : m + 1 ≤ c) :
    ∃ ex : List Value, ex.length = sz ∧ Mem w0 w (L.set i (.row (.slice (some ⟨g, 0, none⟩) (m + 1) c) e sz (m + 1) (cs ++ ex))) := by
  have hl := M.row_len i h
  rcases (M.row i h).2 with ⟨h1, h2⟩ | ⟨g', cap, cur, h1, hb, hg, hc, hm, hs, ht⟩
  · injection h1 with e1 e2 e3
    cases e1
  · injection h1 with e1 e2 e3
    injection e1 with e1
    injection e1 with e1
    subst e1 e3
    have hsz : (m + 1) * sz ≤ c * sz := Nat.mul_le_mul_right _ hm1
    have hcl : cur.toList.length = c * sz := by rw [Array.length_toList]; exact hs
    have hmul : (m + 1) * sz = m * sz + sz := by rw [Nat.add_mul, Nat.one_mul]
    have hex : ((cur.toList.drop (m * sz)).take sz).length = sz := by
      rw [List.length_take, List.length_drop, hcl]
      omega
    have htk : cs ++ (cur.toList.drop (m * sz)).take sz = cur.toList.take ((m + 1) * sz) := by
      rw [← ht, hmul, List.take_add]
    refine ⟨(cur.toList.drop (m * sz)).take sz, hex, ?_⟩
    refine M.change i h M.below ⟨by rw [List.length_append, hl, hex, hmul], .inr ⟨g, c, cur, rfl, hb, hg, hm1, hm, hs, htk.symm⟩⟩ (fun _ _ _ => rfl) (fun j hj => .inl hj)
theorem splL_end {cs ex vs : List Value} {m sz : Nat} (h1 : cs.length = m * sz) (h2 : ex.length = sz) (h3 : vs.length = sz) : splL (cs ++ ex) (m * sz) vs = cs ++ vs := by
  unfold splL
  rw [← h1, List.take_left, h3, ← h2, ← List.length_append, List.drop_length, List.append_nil]
/-- clear of the one element that lies behind a row: the row stays as it is. -/
theorem Mem.ev_clear1 (M : Mem w0 w L) (i : Nat) {T e : TypeId} {zv : Value} {sz bytes : Nat} (E : ElemOk P T e zv sz bytes) (hgd : o.guard = none) (hdst : o.dst = none) (x : Operand)
    (ho : o.op = .call { callee := .builtin .clear, args := #[x], argTypes := #[T] }) {g c m c' : Nat} {cs : List Value} (hL : L[i]? = some (.row (.slice (some ⟨g, 0, none⟩) m c) e sz m cs)) (hm1 : m + 1 ≤ c)
    (hx : a.eval x = .slice (some ⟨g, m * sz, none⟩) 1 c') (h1 : ∀ u ∈ zv.cells.toList, u.oneCell' = true)
    (h : ∀ w1, Mem w0 w1 L → wpList P ops Q rest a w1) : wpList P ops Q (o :: rest) a w := by
  obtain ⟨inf, hi, hz1, hz2, hz3⟩ := E.get
  obtain ⟨ex, hex, M2⟩ := M.row_more i hL hm1
  have hil : i < L.length := (List.getElem?_eq_some_iff.1 hL).1
  have hL2 : (L.set i (.row (.slice (some ⟨g, 0, none⟩) (m + 1) c) e sz (m + 1) (cs ++ ex)))[i]? = some (.row (.slice (some ⟨g, 0, none⟩) (m + 1) c) e sz (m + 1) (cs ++ ex)) := by rw [List.getElem?_set_self hil]
  have hcl := M.row_len i hL
  have hzl : zv.cells.toList.length = sz := by rw [Array.length_toList]; exact E.zs
  have hz : (Builtin.zeroCells zv.cells 1).toList = zv.cells.toList := by
    apply List.ext_getElem
    · simp [Builtin.zeroCells]
    · intro j h1 h2
      simp only [Array.length_toList] at h2
      simp [Builtin.zeroCells, Nat.mod_eq_of_lt h2, h2]
  have hv : (zeroValue e).run P w = .ok zv w := by simp [zeroValue, typeInfo, hi, hz1]
  have hst := run_storeCells_cells (P := P) g (m * sz) zv.cells.toList 0 w (fun j hj => by
      have hlt : m * sz + j < (cs ++ ex).length := by rw [List.length_append, hcl, hex]; omega
      rw [Nat.add_zero, M2.row_cell i hL2 (List.getElem?_eq_getElem hlt)]
      rfl) (fun j hj => by rw [Nat.add_zero]; exact M2.row_frozen i hL2 _) h1
  rw [Nat.add_zero] at hst
  have hrun : ∀ ty, (Builtin.clear_ #[T] ty #[.slice (some ⟨g, m * sz, none⟩) 1 c']).run P w = .ok (.tuple #[]) (w.setCells g (m * sz) zv.cells.toList) := fun ty => by
    simp [Builtin.clear_, run_underlying E.sl, hv, hz, hst]
  have M3 := Mem.row_setn i zv.cells.toList (m * sz) w _ (cs ++ ex) M2 hL2 (by rw [List.length_append, hcl, hex, hzl]; omega)
  rw [List.set_set, splL_end hcl hex hzl] at M3
  have M4 := M3.row_less i (by rw [List.getElem?_set_self hil]) m (by omega)
  rw [List.set_set, List.take_left' hcl, set_same hL] at M4
  refine wpList_plain hgd fun K hK => ?_
  unfold Oper.wp execOp
  simp only [ho, resolve, invoke, builtin, Sem.run_bind, Sem.run_pure, Result.andThen_ok, List.map_toArray, List.map_cons, List.map_nil, hx, hrun]
  show K (a.put o.dst _) _
  rw [hdst]
  exact hK _ _ (h _ M4)
/-- append where there is room, from wherever. -/
theorem Mem.ev_appendFit (M : Mem w0 w L) (i : Nat) {T e : TypeId} {zv : Value} {sz bytes : Nat} (E : ElemOk P T e zv sz bytes) (hgd : o.guard = none) (s x : Operand)
    (ho : o.op = .call { callee := .builtin .append, args := #[s, x], argTypes := #[T, T] }) {g c k : Nat} {cs : List Value} (hL : L[i]? = some (.row (.slice (some ⟨g, 0, none⟩) k c) e sz k cs)) (hs : a.eval s = .slice (some ⟨g, 0, none⟩) k c)
    {ad : Addr} {m c' : Nat} (hx : a.eval x = .slice (some ad) m c') {news : List Value} (hl : news.length = m * sz) (hnews : ∀ j u, news[j]? = some u → w.cell? (ad.add j) = some u) (h1 : ∀ u ∈ news, u.oneCell' = true) (hroom : k + m ≤ c)
    (h : ∀ w1, Mem w0 w1 (L.set i (.row (.slice (some ⟨g, 0, none⟩) (k + m) c) e sz (k + m) (cs ++ news))) → wpList P ops Q rest (a.put o.dst (.slice (some ⟨g, 0, none⟩) (k + m) c)) w1) : wpList P ops Q (o :: rest) a w := by
  obtain ⟨inf, hi, hz1, hz2, hz3⟩ := E.get
  obtain ⟨w', hrun, hown, hg⟩ := run_append_fits (P := P) w w0.heap.size T o.type e inf sz E.sl hi hz2 g k c cs (M.row i hL) ad m c' news hl hnews h1 hroom
  have hgb : w0.heap.size ≤ g := ((M.all i _ hL).lt (k := g) rfl).1
  refine wpList_plain hgd fun K hK => ?_
  unfold Oper.wp execOp
  simp only [ho, resolve, invoke, builtin, Sem.run_bind, Sem.run_pure, Result.andThen_ok, List.map_toArray, List.map_cons, List.map_nil, hs, hx, hrun]
  refine hK _ _ (h w' (M.change i hL ?_ hown (fun j hk hne => hg.block j hk (fun q => hne q.symm)) (fun j hj => .inl hj)))
  exact M.below.grown hg M.size (fun j hj => by injection hj with hj; omega)
end
theorem flat_take {α : Type} {enc : α → List Value} {sz : Nat} (h : ∀ x, (enc x).length = sz) (xs : List α) (k : Nat) (hk : k ≤ xs.length) : (flat enc xs).take (k * sz) = flat enc (xs.take k) := by
  have h1 : flat enc xs = flat enc (xs.take k) ++ flat enc (xs.drop k) := by rw [← flat_append, List.take_append_drop]
  rw [h1]
  exact List.take_left' (by rw [flat_len h, List.length_take, Nat.min_eq_left hk])
end Go.Proofs.Ytnddoiapilookaa
