/- Slices: what came in and is read; rows of the call's own: made, appended to, stored into. No program. -/
import Derived.Test.YtaepgjjmfopiiaaDoorEv
namespace Go.Proofs.YtaepgjjmfopiiaaDoor
set_option linter.unusedSimpArgs false
set_option linter.unusedVariables false
open Go.RowKit

/-- A list's cells, one element behind the other. -/
def flat {α : Type} (enc : α → List Value) (xs : List α) : List Value := xs.flatMap enc
section
variable {α : Type} {enc : α → List Value} {sz : Nat}
theorem flat_len (h : ∀ x, (enc x).length = sz) (xs : List α) : (flat enc xs).length = xs.length * sz := by
  induction xs with
  | nil => simp [flat]
  | cons x xs ih =>
    simp only [flat, List.flatMap_cons, List.length_append, List.length_cons, h x]
    rw [show (xs.flatMap enc).length = xs.length * sz from ih, Nat.add_mul]; omega
theorem flat_snoc (xs : List α) (x : α) : flat enc (xs ++ [x]) = flat enc xs ++ enc x := by simp [flat]
theorem flat_append (xs ys : List α) : flat enc (xs ++ ys) = flat enc xs ++ flat enc ys := by simp [flat]
theorem flat_at (h : ∀ x, (enc x).length = sz) {xs : List α} {k : Nat} {x : α} (hk : xs[k]? = some x) {j : Nat} {v : Value} (hv : (enc x)[j]? = some v) : (flat enc xs)[k * sz + j]? = some v := by
  induction xs generalizing k with
  | nil => simp at hk
  | cons y ys ih =>
    simp only [flat, List.flatMap_cons]
    cases k with
    | zero =>
      simp only [List.getElem?_cons_zero, Option.some.injEq] at hk
      subst hk
      rw [Nat.zero_mul, Nat.zero_add, List.getElem?_append_left (List.getElem?_eq_some_iff.1 hv).1]
      exact hv
    | succ k =>
      simp only [List.getElem?_cons_succ] at hk
      rw [List.getElem?_append_right (by rw [h y, Nat.add_mul]; omega), h y, show (k + 1) * sz + j - sz = k * sz + j by rw [Nat.add_mul]; omega]
      exact ih hk
/-- Some elements of a list of cells, exchanged. -/
def splL (cs : List Value) (o : Nat) (vs : List Value) : List Value := cs.take o ++ vs ++ cs.drop (o + vs.length)
theorem flat_set (h : ∀ x, (enc x).length = sz) (xs : List α) (k : Nat) (x : α) (hk : k < xs.length) : splL (flat enc xs) (k * sz) (enc x) = flat enc (xs.set k x) := by
  induction xs generalizing k with
  | nil => simp at hk
  | cons y ys ih =>
    cases k with
    | zero =>
      simp only [splL, flat, List.flatMap_cons, Nat.zero_mul, List.take_zero, List.nil_append, Nat.zero_add, List.set_cons_zero]
      rw [show (enc x).length = (enc y).length by rw [h, h], List.drop_left]
    | succ k =>
      have ih' := ih k (by simpa using hk)
      simp only [splL, flat, List.flatMap_cons, List.set_cons_succ] at ih' ⊢
      rw [← ih', show (k + 1) * sz = (enc y).length + k * sz by rw [h, Nat.add_mul]; omega, Nat.add_assoc, List.take_length_add_append, List.drop_length_add_append]
      simp
end
/-- A slice value (its address, its length) that reads as these cells, sz of them an element. -/
def Sl (w : World) (sz : Nat) (A : Option Addr) (n : Nat) (cs : List Value) : Prop :=
  cs.length = n * sz ∧ (0 < n → ∃ b off, A = some ⟨b, off, none⟩ ∧ w.rangeAt b off cs)

section
variable {w w0 w1 : World} {sz n : Nat} {A : Option Addr} {cs : List Value} {L : List Ent}
theorem range_kept {b off : Nat} (h : w.rangeAt b off cs) (hb : Below w.heap.size w w1) : w1.rangeAt b off cs := fun j v hv => by
  have hc := h j v hv
  exact (hb.cell (World.block_lt_of_cell? w _ hc)).trans hc
theorem Sl.kept (h : Sl w sz A n cs) (hb : Below w.heap.size w w1) : Sl w1 sz A n cs :=
  ⟨h.1, fun hn => by
    obtain ⟨b, off, e, hr⟩ := h.2 hn
    exact ⟨b, off, e, range_kept hr hb⟩⟩
theorem Sl.nil_ : Sl w sz A 0 [] := ⟨by simp, fun h => absurd h (by omega)⟩
theorem Mem.sl (M : Mem w0 w L) (h : Sl w0 sz A n cs) : Sl w sz A n cs := h.kept M.below
theorem Mem.row_sl (M : Mem w0 w L) (i : Nat) {v : Value} {e : TypeId} (h : L[i]? = some (.row v e sz n cs)) : ∃ A cap, v = .slice A n cap ∧ n ≤ cap ∧ Sl w sz A n cs := by
  obtain ⟨A, cap, rfl, hc, _⟩ := M.row_slice i h
  refine ⟨A, cap, rfl, hc, M.row_len i h, fun hn => ?_⟩
  obtain ⟨g, cap', e1, _⟩ := M.row_form i h hn
  obtain rfl : A = some ⟨g, 0, none⟩ := by injection e1
  refine ⟨g, 0, rfl, fun j u hu => ?_⟩
  rw [Nat.zero_add]
  exact M.row_cell i h hu
theorem Mem.slof (M : Mem w0 w L) (i : Nat) {c : Nat} {e : TypeId} (h : L[i]? = some (.row (.slice A n c) e sz n cs)) : Sl w sz A n cs := by
  obtain ⟨A', c', e1, _, hs⟩ := M.row_sl i h
  injection e1 with e1
  subst e1
  exact hs
theorem range_at {α : Type} {enc : α → List Value} (henc : ∀ x, (enc x).length = sz) {xs : List α} {b off : Nat} (h : w.rangeAt b off (flat enc xs)) {k : Nat} {x : α} (hk : xs[k]? = some x) :
    w.rangeAt b (off + k * sz) (enc x) := fun j v hv => by
  have := h (k * sz + j) v (flat_at henc hk hv)
  rwa [← Nat.add_assoc] at this
end

section
variable {w w0 w1 : World} {L : List Ent}
theorem Mem.row_setn (i : Nat) {g cap : Nat} {e : TypeId} {sz n : Nat} : ∀ (vs : List Value) (o : Nat) (w : World) (L : List Ent) (cs : List Value), Mem w0 w L →
    L[i]? = some (.row (.slice (some ⟨g, 0, none⟩) n cap) e sz n cs) → o + vs.length ≤ cs.length →
    Mem w0 (w.setCells g o vs) (L.set i (.row (.slice (some ⟨g, 0, none⟩) n cap) e sz n (splL cs o vs)))
  | [], o, w, L, cs, M, h, _ => by
    have : splL cs o [] = cs := by simp [splL]
    rw [this]
    have hs : L.set i (.row (.slice (some ⟨g, 0, none⟩) n cap) e sz n cs) = L := by
      apply List.ext_getElem?
      intro j
      by_cases hj : j = i
      · subst hj; rw [List.getElem?_set_self (List.getElem?_eq_some_iff.1 h).1, h]
      · rw [List.getElem?_set_ne (Ne.symm hj)]
    rw [hs]
    exact M
  | v :: vs, o, w, L, cs, M, h, hl => by
    simp only [List.length_cons] at hl
    have ih := Mem.row_setn i vs (o + 1) (w.setCell ⟨g, o, none⟩ v) _ (cs.set o v) (M.row_set i h o v) (List.getElem?_set_self (List.getElem?_eq_some_iff.1 h).1) (by simp; omega)
    rw [List.set_set] at ih
    have e1 : splL (cs.set o v) (o + 1) vs = splL cs o (v :: vs) := by
      simp only [splL, List.length_cons]
      rw [List.take_succ_eq_append_getElem (by simp; omega), List.getElem_set_self, List.take_set_of_le (by omega), List.drop_set_of_lt (by omega)]
      simp [Nat.add_assoc, Nat.add_comm 1]
    rw [e1] at ih
    exact ih
theorem made_flat {α : Type} {enc : α → List Value} {sz : Nat} (h : ∀ x, (enc x).length = sz) (hs : 0 < sz) (z : α) (zc : Array Value) (hz : zc.toList = enc z) (n : Nat) :
    (madeCells zc (n * sz)).toList = flat enc (List.replicate n z) := by
  have hzs : zc.size = sz := by rw [← Array.length_toList, hz, h]
  apply List.ext_getElem?
  intro i
  by_cases hi : i < n * sz
  · have hk : i / sz < n := by rw [Nat.div_lt_iff_lt_mul hs]; exact hi
    have hm : i % sz < sz := Nat.mod_lt _ hs
    have hv : (enc z)[i % sz]? = some ((enc z)[i % sz]'(by rw [h]; exact hm)) := List.getElem?_eq_getElem _
    have hf := flat_at h (xs := List.replicate n z) (k := i / sz) (by simp [hk]) hv
    rw [Nat.div_mul_self_eq_mod_sub_self] at hf
    rw [show i - i % sz + i % sz = i by have := Nat.mod_le i sz; omega] at hf
    rw [hf]
    have hzi : zc[i % sz]? = (enc z)[i % sz]? := by rw [← Array.getElem?_toList, hz]
    simp [madeCells, hi, hzs]
    rw [hv] at hzi
    rw [getElem!_def, hzi]
  · rw [List.getElem?_eq_none (by simp [madeCells]; omega), List.getElem?_eq_none (by rw [flat_len h]; simp; omega)]
end

section
variable {P : Program} {ops : Array Oper} {rest : List Oper} {o : Oper} {a : Act} {w0 w : World} {Q : Exit → Act → World → Prop} {L : List Ent}
/-- What the program's table says of an element type. -/
structure ElemOk (P : Program) (T e : TypeId) (z : Value) (sz bytes : Nat) : Prop where
  sl : P.underlying T = some (.slice e)
  info : (P.info? e).map (fun i => (i.zero, i.size, i.bytes)) = some (some z, sz, bytes)
  zs : z.cells.size = sz
  pos : 0 < sz
theorem ElemOk.get {T e : TypeId} {z : Value} {sz bytes : Nat} (E : ElemOk P T e z sz bytes) : ∃ i, P.info? e = some i ∧ i.zero = some z ∧ i.size = sz ∧ i.bytes = bytes := by
  have h := E.info
  cases hq : P.info? e with
  | none => simp [hq] at h
  | some i =>
    simp only [hq, Option.map_some, Option.some.injEq, Prod.mk.injEq] at h
    exact ⟨i, rfl, h.1, h.2.1, h.2.2⟩
theorem gate_make {T : TypeId} {x y : Operand} (_ho : o.op = .makeSlice T x y) (h : wpList P ops Q (o :: rest) a w) : wpList P ops Q (o :: rest) a w := h
/-- make([]T, n). -/
theorem Mem.ev_make (M : Mem w0 w L) {α : Type} (enc : α → List Value) (z : α) {T e : TypeId} {zv : Value} {sz bytes : Nat} (E : ElemOk P T e zv sz bytes) (henc : ∀ x, (enc x).length = sz) (hz : zv.cells.toList = enc z)
    (hgd : o.guard = none) (l c : Operand) (ho : o.op = .makeSlice T l c) (n : Nat) {kl kc : IntKind} (hl : a.eval l = .int kl n) (hc : a.eval c = .int kc n) (hb : bytes * n ≤ 281474976710656) (hm : n ≤ maxLen)
    (h : ∀ g w1, Mem w0 w1 (L ++ [.row (.slice (some ⟨g, 0, none⟩) n n) e sz n (flat enc (List.replicate n z))]) → wpList P ops Q rest (a.put o.dst (.slice (some ⟨g, 0, none⟩) n n)) w1) : wpList P ops Q (o :: rest) a w := by
  obtain ⟨i, hi, h1, h2, h3⟩ := E.get
  refine wpList_make_full w hgd l c T ho w0.heap.size e i zv sz E.sl hi h1 h2 kl kc n n n hl hc rfl rfl (by rw [h3]; exact hb) hm M.size ?_
  intro w' hown hg
  rw [made_flat henc E.pos z zv.cells hz n] at hown
  refine h _ w' (M.push _ ⟨hg.os, hg.tape, hg.output, hg.size, fun k hk => hg.block k hk (by simp)⟩ hown (fun k hk => ?_))
  simp only [Ent.place, Value.ownBlock, Option.some.injEq] at hk
  omega
/-- append of cells that lie somewhere in memory. -/
theorem Mem.ev_append (M : Mem w0 w L) (i : Nat) {T e : TypeId} {zv : Value} {sz bytes : Nat} (E : ElemOk P T e zv sz bytes) (hgd : o.guard = none) (s x : Operand)
    (ho : o.op = .call { callee := .builtin .append, args := #[s, x], argTypes := #[T, T] }) {v : Value} {n : Nat} {cs : List Value} (hL : L[i]? = some (.row v e sz n cs)) (hs : a.eval s = v)
    {ad : Addr} {m c : Nat} (hx : a.eval x = .slice (some ad) m c) {news : List Value} (hl : news.length = m * sz) (hnews : ∀ j u, news[j]? = some u → w.cell? (ad.add j) = some u) (h1 : ∀ u ∈ news, u.oneCell' = true)
    (hbytes : (n + m) * bytes ≤ 140737488355328) (hb0 : 0 < bytes)
    (h : ∀ v' w1, Mem w0 w1 (L.set i (.row v' e sz (n + m) (cs ++ news))) → wpList P ops Q rest (a.put o.dst v') w1) : wpList P ops Q (o :: rest) a w := by
  obtain ⟨inf, hi, hz1, hz2, hz3⟩ := E.get
  have hml : n + m ≤ maxLen := by
    unfold maxLen
    have : n + m ≤ (n + m) * bytes := Nat.le_mul_of_pos_right _ hb0
    omega
  obtain ⟨v', w', hrun, hown, hg, _, hat⟩ := run_append_own_at (P := P) w w0.heap.size T o.type e inf zv sz bytes E.sl hi hz1 hz2 hz3 E.zs E.pos v n cs (M.row i hL) ad m c news hl hnews h1 hml hbytes M.size
  refine wpList_plain hgd fun K hK => ?_
  unfold Oper.wp execOp
  simp only [ho, resolve, invoke, builtin, Sem.run_bind, Sem.run_pure, Result.andThen_ok, List.map_toArray, List.map_cons, List.map_nil, hs, hx, hrun]
  refine hK _ _ (h v' w' (M.change i hL ?_ hown (fun k hk hne => hg.block k hk (fun e => hne e.symm)) (fun k hk => ?_)))
  · refine M.below.grown hg M.size (fun k hk => ((M.all i _ hL).lt (k := k) hk).1)
  · rcases hat with e1 | e1
    · exact .inl (show v.ownBlock = some k from e1.symm.trans hk)
    · refine .inr ?_
      have hk : v'.ownBlock = some k := hk
      rw [e1] at hk
      injection hk with hk
      omega
/-- .. of one element that has just been laid into a variable of its own. -/
theorem Mem.ev_append1 (M : Mem w0 w L) (i j : Nat) {T e : TypeId} {zv : Value} {sz bytes : Nat} (E : ElemOk P T e zv sz bytes) (hgd : o.guard = none) (s x : Operand)
    (ho : o.op = .call { callee := .builtin .append, args := #[s, x], argTypes := #[T, T] }) {v : Value} {n : Nat} {cs : List Value} (hL : L[i]? = some (.row v e sz n cs)) (hs : a.eval s = v)
    {g c : Nat} {t : TypeId} {news : Array Value} (hx : a.eval x = .slice (some ⟨g, 0, none⟩) 1 c) (hN : L[j]? = some (.blk g t news)) (hl : news.size = sz) (h1 : news.all (·.oneCell') = true)
    (hbytes : (n + 1) * bytes ≤ 140737488355328) (hb0 : 0 < bytes)
    (h : ∀ v' w1, Mem w0 w1 (L.set i (.row v' e sz (n + 1) (cs ++ news.toList))) → wpList P ops Q rest (a.put o.dst v') w1) : wpList P ops Q (o :: rest) a w :=
  M.ev_append i E hgd s x ho hL hs hx (news := news.toList) (by simp [hl]) (fun k u hu => by
    rw [show (⟨g, 0, none⟩ : Addr).add k = ⟨g, k, none⟩ by unfold Addr.add; split <;> simp_all]
    exact (M.blk j hN).cellv (by simpa using hu)) (fun u hu => by
      rw [Array.all_eq_true_iff_forall_mem] at h1
      exact h1 u (by simpa using hu)) hbytes hb0 h
/-- xs[i] = x, x of several cells. -/
theorem Mem.ev_rput (M : Mem w0 w L) (i : Nat) (T : TypeId) (x y : Operand) (ho : o.op = .store T x y) (hgd : o.guard = none) {g cap off : Nat} {e : TypeId} {sz n : Nat} {cs : List Value}
    (hL : L[i]? = some (.row (.slice (some ⟨g, 0, none⟩) n cap) e sz n cs)) (hx : a.eval x = .pointer (some ⟨g, off, none⟩)) (vs : List Value) (hy : a.eval y = .agg vs.toArray)
    (hl : off + vs.length ≤ cs.length) (hi : (P.info? T).map (·.size) = some vs.length) (h1 : vs.toArray.all (·.oneCell') = true) (hdst : o.dst = none)
    (h : ∀ w1, Mem w0 w1 (L.set i (.row (.slice (some ⟨g, 0, none⟩) n cap) e sz n (splL cs off vs))) → wpList P ops Q rest a w1) : wpList P ops Q (o :: rest) a w := by
  refine wpList_store_mid hgd T x y ho g off vs.toArray hx hy (fun j hj => ?_) (by simpa using hi) h1 ?_
  · have hj' : off + j < cs.length := by simp at hj; omega
    exact ⟨by rw [M.row_cell i hL (List.getElem?_eq_getElem hj')]; rfl, M.row_frozen i hL _⟩
  · rw [hdst]
    exact h _ (Mem.row_setn i vs off w L cs M hL hl)
/-- xs[i] = x, x of one cell. -/
theorem Mem.ev_rput1 (M : Mem w0 w L) (i : Nat) (T : TypeId) (x y : Operand) (ho : o.op = .store T x y) (hgd : o.guard = none) {g cap off : Nat} {e : TypeId} {sz n : Nat} {cs : List Value}
    (hL : L[i]? = some (.row (.slice (some ⟨g, 0, none⟩) n cap) e sz n cs)) (hx : a.eval x = .pointer (some ⟨g, off, none⟩)) (v : Value) (hy : a.eval y = v)
    (hl : off < cs.length) (hi : (P.info? T).map (·.size) = some 1) (h1 : v.oneCell' = true) (hdst : o.dst = none)
    (h : ∀ w1, Mem w0 w1 (L.set i (.row (.slice (some ⟨g, 0, none⟩) n cap) e sz n (cs.set off v))) → wpList P ops Q rest a w1) : wpList P ops Q (o :: rest) a w := by
  refine wpList_plain hgd fun K hK => ?_
  unfold Oper.wp execOp
  simp only [ho, hx, hy, Sem.run_bind, Result.andThen_ok, run_put T hi h1 (M.row_cell i hL (List.getElem?_eq_getElem hl)) (M.row_frozen i hL off), Sem.run_pure]
  show K (a.put o.dst undef) _
  rw [hdst]
  exact hK _ _ (h _ (M.row_set i hL off v))
/-- A load of several cells of a slice. -/
theorem ev_ldr (T : TypeId) (x : Operand) (ho : o.op = .load T x) (hgd : o.guard = none) {b off : Nat} {vs : List Value} (hr : w.rangeAt b off vs) {d : TypeDesc} (hu : P.underlying T = some d) (hd : d.isRow = true)
    (hi : (P.info? T).map (·.size) = some vs.length) (hx : a.eval x = .pointer (some ⟨b, off, none⟩)) (h : wpList P ops Q rest (a.put o.dst (.agg vs.toArray)) w) : wpList P ops Q (o :: rest) a w :=
  wpList_load_mid hgd T x ho b off hx vs d hr hu hd hi h
end

/-- A call hands back a row of its own. -/
def RetRow (w : World) (T : TypeId) (sz n : Nat) (cs : List Value) (e : Ending) (w' : World) : Prop :=
  ∃ A c, e = .returned (.slice A n c) ∧ n ≤ c ∧ Mem w w' [.row (.slice A n c) T sz n cs]
end Go.Proofs.YtaepgjjmfopiiaaDoor
