/- Texts of a proof, laid together: Sl, Base, Min, Open, Conf0. -/
import Derived.Test.YtoacnfofijikmaaGreatDoorZR00
import Derived.ProofKit
import Derived.OpenShut
import Derived.ChangeOld
import Derived.Deep.Slices
namespace Go.Proofs.YtoacnfofijikmaaGreatDoor
set_option linter.unusedSimpArgs false
set_option linter.unusedVariables false
open Go.RowKit

/-- A list's cells, one element behind the other. -/
def flat {α : Type} (enc : α → List Value) (xs : List α) : List Value := xs.flatMap enc
section
variable {α : Type} {enc : α → List Value} {sz : Nat}
theorem flat_len (h : ∀ x, (enc x).length = sz) (xs : List α) : (flat enc xs).length = xs.length * sz := by
  induction xs with
  | nil => simp [flat]
  | cons x xs ih =>
    simp only [flat, List.flatMap_cons, List.length_append, List.length_cons, h x]
    rw [show (xs.flatMap enc).length = xs.length * sz from ih, Nat.add_mul]; omega
theorem flat_snoc (xs : List α) (x : α) : flat enc (xs ++ [x]) = flat enc xs ++ enc x := by simp [flat]
theorem flat_append (xs ys : List α) : flat enc (xs ++ ys) = flat enc xs ++ flat enc ys := by simp [flat]
theorem flat_at (h : ∀ x, (enc x).length = sz) {xs : List α} {k : Nat} {x : α} (hk : xs[k]? = some x) {j : Nat} {v : Value} (hv : (enc x)[j]? = some v) : (flat enc xs)[k * sz + j]? = some v := by
  induction xs generalizing k with
  | nil => simp at hk
  | cons y ys ih =>
    simp only [flat, List.flatMap_cons]
    cases k with
    | zero =>
      simp only [List.getElem?_cons_zero, Option.some.injEq] at hk
      subst hk
      rw [Nat.zero_mul, Nat.zero_add, List.getElem?_append_left (List.getElem?_eq_some_iff.1 hv).1]
      exact hv
    | succ k =>
      simp only [List.getElem?_cons_succ] at hk
      rw [List.getElem?_append_right (by rw [h y, Nat.add_mul]; omega), h y, show (k + 1) * sz + j - sz = k * sz + j by rw [Nat.add_mul]; omega]
      exact ih hk
/-- Some elements of a list of cells, exchanged. -/
def splL (cs : List Value) (o : Nat) (vs : List Value) : List Value := cs.take o ++ vs ++ cs.drop (o + vs.length)
theorem flat_set (h : ∀ x, (enc x).length = sz) (xs : List α) (k : Nat) (x : α) (hk : k < xs.length) : splL (flat enc xs) (k * sz) (enc x) = flat enc (xs.set k x) := by
  induction xs generalizing k with
  | nil => simp at hk
  | cons y ys ih =>
    cases k with
    | zero =>
      simp only [splL, flat, List.flatMap_cons, Nat.zero_mul, List.take_zero, List.nil_append, Nat.zero_add, List.set_cons_zero]
      rw [show (enc x).length = (enc y).length by rw [h, h], List.drop_left]
    | succ k =>
      have ih' := ih k (by simpa using hk)
      simp only [splL, flat, List.flatMap_cons, List.set_cons_succ] at ih' ⊢
      rw [← ih', show (k + 1) * sz = (enc y).length + k * sz by rw [h, Nat.add_mul]; omega, Nat.add_assoc, List.take_length_add_append, List.drop_length_add_append]
      simp
end
/-- A slice value (its address, its length) that reads as these cells, sz of them an element. -/
def Sl (w : World) (sz : Nat) (A : Option Addr) (n : Nat) (cs : List Value) : Prop :=
  cs.length = n * sz ∧ (0 < n → ∃ b off, A = some ⟨b, off, none⟩ ∧ w.rangeAt b off cs)

section
variable {w w0 w1 : World} {sz n : Nat} {A : Option Addr} {cs : List Value} {L : List Ent}
theorem range_kept {b off : Nat} (h : w.rangeAt b off cs) (hb : Below w.heap.size w w1) : w1.rangeAt b off cs := fun j v hv => by
  have hc := h j v hv
  exact (hb.cell (World.block_lt_of_cell? w _ hc)).trans hc
theorem Sl.kept (h : Sl w sz A n cs) (hb : Below w.heap.size w w1) : Sl w1 sz A n cs :=
  ⟨h.1, fun hn => by
    obtain ⟨b, off, e, hr⟩ := h.2 hn
    exact ⟨b, off, e, range_kept hr hb⟩⟩
theorem Sl.nil_ : Sl w sz A 0 [] := ⟨by simp, fun h => absurd h (by omega)⟩
theorem Mem.sl (M : Mem w0 w L) (h : Sl w0 sz A n cs) : Sl w sz A n cs := h.kept M.below
theorem Mem.row_sl (M : Mem w0 w L) (i : Nat) {v : Value} {e : TypeId} (h : L[i]? = some (.row v e sz n cs)) : ∃ A cap, v = .slice A n cap ∧ n ≤ cap ∧ Sl w sz A n cs := by
  obtain ⟨A, cap, rfl, hc, _⟩ := M.row_slice i h
  refine ⟨A, cap, rfl, hc, M.row_len i h, fun hn => ?_⟩
  obtain ⟨g, cap', e1, _⟩ := M.row_form i h hn
  obtain rfl : A = some ⟨g, 0, none⟩ := by injection e1
  refine ⟨g, 0, rfl, fun j u hu => ?_⟩
  rw [Nat.zero_add]
  exact M.row_cell i h hu
theorem Mem.slof (M : Mem w0 w L) (i : Nat) {c : Nat} {e : TypeId} (h : L[i]? = some (.row (.slice A n c) e sz n cs)) : Sl w sz A n cs := by
  obtain ⟨A', c', e1, _, hs⟩ := M.row_sl i h
  injection e1 with e1
  subst e1
  exact hs
theorem range_at {α : Type} {enc : α → List Value} (henc : ∀ x, (enc x).length = sz) {xs : List α} {b off : Nat} (h : w.rangeAt b off (flat enc xs)) {k : Nat} {x : α} (hk : xs[k]? = some x) :
    w.rangeAt b (off + k * sz) (enc x) := fun j v hv => by
  have := h (k * sz + j) v (flat_at henc hk hv)
  rwa [← Nat.add_assoc] at this
end

section
variable {w w0 w1 : World} {L : List Ent}
theorem Mem.row_setn (i : Nat) {g cap : Nat} {e : TypeId} {sz n : Nat} : ∀ (vs : List Value) (o : Nat) (w : World) (L : List Ent) (cs : List Value), Mem w0 w L →
    L[i]? = some (.row (.slice (some ⟨g, 0, none⟩) n cap) e sz n cs) → o + vs.length ≤ cs.length →
    Mem w0 (w.setCells g o vs) (L.set i (.row (.slice (some ⟨g, 0, none⟩) n cap) e sz n (splL cs o vs)))
  | [], o, w, L, cs, M, h, _ => by
    have : splL cs o [] = cs := by simp [splL]
    rw [this]
    have hs : L.set i (.row (.slice (some ⟨g, 0, none⟩) n cap) e sz n cs) = L := by
      apply List.ext_getElem?
      intro j
      by_cases hj : j = i
      · subst hj; rw [List.getElem?_set_self (List.getElem?_eq_some_iff.1 h).1, h]
      · rw [List.getElem?_set_ne (Ne.symm hj)]
    rw [hs]
    exact M
  | v :: vs, o, w, L, cs, M, h, hl => by
    simp only [List.length_cons] at hl
    have ih := Mem.row_setn i vs (o + 1) (w.setCell ⟨g, o, none⟩ v) _ (cs.set o v) (M.row_set i h o v) (List.getElem?_set_self (List.getElem?_eq_some_iff.1 h).1) (by simp; omega)
    rw [List.set_set] at ih
    have e1 : splL (cs.set o v) (o + 1) vs = splL cs o (v :: vs) := by
      simp only [splL, List.length_cons]
      rw [List.take_succ_eq_append_getElem (by simp; omega), List.getElem_set_self, List.take_set_of_le (by omega), List.drop_set_of_lt (by omega)]
      simp [Nat.add_assoc, Nat.add_comm 1]
    rw [e1] at ih
    exact ih
end

section
variable {P : Program} {ops : Array Oper} {rest : List Oper} {o : Oper} {a : Act} {w0 w : World} {Q : Exit → Act → World → Prop} {L : List Ent}
/-- What the program's table says of an element type. -/
structure ElemOk (P : Program) (T e : TypeId) (z : Value) (sz bytes : Nat) : Prop where
  sl : P.underlying T = some (.slice e)
  info : (P.info? e).map (fun i => (i.zero, i.size, i.bytes)) = some (some z, sz, bytes)
  zs : z.cells.size = sz
  pos : 0 < sz
theorem ElemOk.get {T e : TypeId} {z : Value} {sz bytes : Nat} (E : ElemOk P T e z sz bytes) : ∃ i, P.info? e = some i ∧ i.zero = some z ∧ i.size = sz ∧ i.bytes = bytes := by
  have h := E.info
  cases hq : P.info? e with
  | none => simp [hq] at h
  | some i =>
    simp only [hq, Option.map_some, Option.some.injEq, Prod.mk.injEq] at h
    exact ⟨i, rfl, h.1, h.2.1, h.2.2⟩
/-- append of cells that lie somewhere in memory. -/
theorem Mem.ev_append (M : Mem w0 w L) (i : Nat) {T e : TypeId} {zv : Value} {sz bytes : Nat} (E : ElemOk P T e zv sz bytes) (hgd : o.guard = none) (s x : Operand)
    (ho : o.op = .call { callee := .builtin .append, args := #[s, x], argTypes := #[T, T] }) {v : Value} {n : Nat} {cs : List Value} (hL : L[i]? = some (.row v e sz n cs)) (hs : a.eval s = v)
    {ad : Addr} {m c : Nat} (hx : a.eval x = .slice (some ad) m c) {news : List Value} (hl : news.length = m * sz) (hnews : ∀ j u, news[j]? = some u → w.cell? (ad.add j) = some u) (h1 : ∀ u ∈ news, u.oneCell' = true)
    (hbytes : (n + m) * bytes ≤ 140737488355328) (hb0 : 0 < bytes)
    (h : ∀ v' w1, Mem w0 w1 (L.set i (.row v' e sz (n + m) (cs ++ news))) → wpList P ops Q rest (a.put o.dst v') w1) : wpList P ops Q (o :: rest) a w := by
  obtain ⟨inf, hi, hz1, hz2, hz3⟩ := E.get
  have hml : n + m ≤ maxLen := by
    unfold maxLen
    have : n + m ≤ (n + m) * bytes := Nat.le_mul_of_pos_right _ hb0
    omega
  obtain ⟨v', w', hrun, hown, hg, _, hat⟩ := run_append_own_at (P := P) w w0.heap.size T o.type e inf zv sz bytes E.sl hi hz1 hz2 hz3 E.zs E.pos v n cs (M.row i hL) ad m c news hl hnews h1 hml hbytes M.size
  refine wpList_plain hgd fun K hK => ?_
  unfold Oper.wp execOp
  simp only [ho, resolve, invoke, builtin, Sem.run_bind, Sem.run_pure, Result.andThen_ok, List.map_toArray, List.map_cons, List.map_nil, hs, hx, hrun]
  refine hK _ _ (h v' w' (M.change i hL ?_ hown (fun k hk hne => hg.block k hk (fun e => hne e.symm)) (fun k hk => ?_)))
  · refine M.below.grown hg M.size (fun k hk => ((M.all i _ hL).lt (k := k) hk).1)
  · rcases hat with e1 | e1
    · exact .inl (show v.ownBlock = some k from e1.symm.trans hk)
    · refine .inr ?_
      have hk : v'.ownBlock = some k := hk
      rw [e1] at hk
      injection hk with hk
      omega
/-- .. of one element that has just been laid into a variable of its own. -/
theorem Mem.ev_append1 (M : Mem w0 w L) (i j : Nat) {T e : TypeId} {zv : Value} {sz bytes : Nat} (E : ElemOk P T e zv sz bytes) (hgd : o.guard = none) (s x : Operand)
    (ho : o.op = .call { callee := .builtin .append, args := #[s, x], argTypes := #[T, T] }) {v : Value} {n : Nat} {cs : List Value} (hL : L[i]? = some (.row v e sz n cs)) (hs : a.eval s = v)
    {g c : Nat} {t : TypeId} {news : Array Value} (hx : a.eval x = .slice (some ⟨g, 0, none⟩) 1 c) (hN : L[j]? = some (.blk g t news)) (hl : news.size = sz) (h1 : news.all (·.oneCell') = true)
    (hbytes : (n + 1) * bytes ≤ 140737488355328) (hb0 : 0 < bytes)
    (h : ∀ v' w1, Mem w0 w1 (L.set i (.row v' e sz (n + 1) (cs ++ news.toList))) → wpList P ops Q rest (a.put o.dst v') w1) : wpList P ops Q (o :: rest) a w :=
  M.ev_append i E hgd s x ho hL hs hx (news := news.toList) (by simp [hl]) (fun k u hu => by
    rw [show (⟨g, 0, none⟩ : Addr).add k = ⟨g, k, none⟩ by unfold Addr.add; split <;> simp_all]
    exact (M.blk j hN).cellv (by simpa using hu)) (fun u hu => by
      rw [Array.all_eq_true_iff_forall_mem] at h1
      exact h1 u (by simpa using hu)) hbytes hb0 h
/-- xs[i] = x, x of several cells. -/
theorem Mem.ev_rput (M : Mem w0 w L) (i : Nat) (T : TypeId) (x y : Operand) (ho : o.op = .store T x y) (hgd : o.guard = none) {g cap off : Nat} {e : TypeId} {sz n : Nat} {cs : List Value}
    (hL : L[i]? = some (.row (.slice (some ⟨g, 0, none⟩) n cap) e sz n cs)) (hx : a.eval x = .pointer (some ⟨g, off, none⟩)) (vs : List Value) (hy : a.eval y = .agg vs.toArray)
    (hl : off + vs.length ≤ cs.length) (hi : (P.info? T).map (·.size) = some vs.length) (h1 : vs.toArray.all (·.oneCell') = true) (hdst : o.dst = none)
    (h : ∀ w1, Mem w0 w1 (L.set i (.row (.slice (some ⟨g, 0, none⟩) n cap) e sz n (splL cs off vs))) → wpList P ops Q rest a w1) : wpList P ops Q (o :: rest) a w := by
  refine wpList_store_mid hgd T x y ho g off vs.toArray hx hy (fun j hj => ?_) (by simpa using hi) h1 ?_
  · have hj' : off + j < cs.length := by simp at hj; omega
    exact ⟨by rw [M.row_cell i hL (List.getElem?_eq_getElem hj')]; rfl, M.row_frozen i hL _⟩
  · rw [hdst]
    exact h _ (Mem.row_setn i vs off w L cs M hL hl)
/-- xs[i] = x, x of one cell. -/
theorem Mem.ev_rput1 (M : Mem w0 w L) (i : Nat) (T : TypeId) (x y : Operand) (ho : o.op = .store T x y) (hgd : o.guard = none) {g cap off : Nat} {e : TypeId} {sz n : Nat} {cs : List Value}
    (hL : L[i]? = some (.row (.slice (some ⟨g, 0, none⟩) n cap) e sz n cs)) (hx : a.eval x = .pointer (some ⟨g, off, none⟩)) (v : Value) (hy : a.eval y = v)
    (hl : off < cs.length) (hi : (P.info? T).map (·.size) = some 1) (h1 : v.oneCell' = true) (hdst : o.dst = none)
    (h : ∀ w1, Mem w0 w1 (L.set i (.row (.slice (some ⟨g, 0, none⟩) n cap) e sz n (cs.set off v))) → wpList P ops Q rest a w1) : wpList P ops Q (o :: rest) a w := by
  refine wpList_plain hgd fun K hK => ?_
  unfold Oper.wp execOp
  simp only [ho, hx, hy, Sem.run_bind, Result.andThen_ok, run_put T hi h1 (M.row_cell i hL (List.getElem?_eq_getElem hl)) (M.row_frozen i hL off), Sem.run_pure]
  show K (a.put o.dst undef) _
  rw [hdst]
  exact hK _ _ (h _ (M.row_set i hL off v))
/-- A load of several cells of a slice. -/
theorem ev_ldr (T : TypeId) (x : Operand) (ho : o.op = .load T x) (hgd : o.guard = none) {b off : Nat} {vs : List Value} (hr : w.rangeAt b off vs) {d : TypeDesc} (hu : P.underlying T = some d) (hd : d.isRow = true)
    (hi : (P.info? T).map (·.size) = some vs.length) (hx : a.eval x = .pointer (some ⟨b, off, none⟩)) (h : wpList P ops Q rest (a.put o.dst (.agg vs.toArray)) w) : wpList P ops Q (o :: rest) a w :=
  wpList_load_mid hgd T x ho b off hx vs d hr hu hd hi h
end

/-- A call hands back a row of its own. -/
def RetRow (w : World) (T : TypeId) (sz n : Nat) (cs : List Value) (e : Ending) (w' : World) : Prop :=
  ∃ A c, e = .returned (.slice A n c) ∧ n ≤ c ∧ Mem w w' [.row (.slice A n c) T sz n cs]
end Go.Proofs.YtoacnfofijikmaaGreatDoor
namespace Go.Proofs.YtoacnfofijikmaaGreatDoor
set_option linter.unusedSimpArgs false
set_option linter.unusedVariables false
open Go.RowKit

/-- Whether a field has a cell. -/
def Fld.has (F : Fld) (c : Int) : Bool := inB c 0 99 && (decide (c % 10 < F.wide) && decide (c / 10 < F.high))
theorem Fld.has_iff {F : Fld} {c : Int} : F.has c = true ↔ (0 ≤ c ∧ c ≤ 99) ∧ c % 10 < F.wide ∧ c / 10 < F.high := by
  simp [Fld.has, inB_iff]
/-- Whether one cell of a field is as it must be. -/
def Fld.okAt (F : Fld) (k : Nat) : Bool :=
  decide (0 ≤ F.kind k ∧ F.kind k ≤ 3 ∧ 0 ≤ F.seed k ∧ F.seed k ≤ 1000 ∧ (F.kind k ≠ 0 → F.seed k = 0) ∧ (F.has k = false → F.kind k = 0 ∧ F.seed k = 0))
def Fld.valid (F : Fld) : Bool := inB F.wide 1 10 && (inB F.high 1 10 && (List.range 100).all F.okAt)
theorem Fld.valid_of {F : Fld} (h1 : inB F.wide 1 10 = true) (h2 : inB F.high 1 10 = true) (h : ∀ j, j < 100 → F.okAt j = true) : F.valid = true := by
  simp only [Fld.valid, h1, h2, Bool.true_and, List.all_eq_true, List.mem_range]
  exact h
theorem Fld.not_valid {F : Fld} {k : Nat} (hk : k < 100) (h : F.okAt k = false) : F.valid = false := by
  rw [← Bool.not_eq_true]
  intro hv
  simp only [Fld.valid, Bool.and_eq_true, List.all_eq_true, List.mem_range] at hv
  rw [hv.2.2 k hk] at h
  cases h

theorem all_succ {p : Nat → Bool} {k : Nat} (h : ∀ j, j < k → p j = true) (hk : p k = true) : ∀ j, j < k + 1 → p j = true := fun j hj => by
  rcases Nat.lt_or_ge j k with h1 | h1
  · exact h j h1
  · obtain rfl : j = k := by omega
    exact hk

set_option maxRecDepth 100000 in
set_option maxHeartbeats 400000 in
theorem within_any (n lo hi : Int) (w : World) :
    Calls Tryz.prog 59 #[.int .i64 n, .int .i64 lo, .int .i64 hi] w fun e w' => e = .returned (.bool (inB n lo hi)) ∧ w = w' := by
  go_enter Tryz.func59, Tryz.ntmps59
  go_wp2
  · go_ret
    exact ⟨ret_bool (by simp [inB, *]), rfl⟩
  · go_ret
    exact ⟨ret_bool (by simp [inB]; omega), rfl⟩
set_option maxRecDepth 100000 in
set_option maxHeartbeats 400000 in
theorem l00In_any (n lo hi : Int) (w : World) :
    Calls Tryz.prog 61 #[.int .i64 n, .int .i64 lo, .int .i64 hi] w fun e w' => e = .returned (.bool (inB n lo hi)) ∧ w = w' := by
  go_enter Tryz.func61, Tryz.ntmps61
  go_wp2
  · go_ret
    exact ⟨ret_bool (by simp [inB, *]), rfl⟩
  · go_ret
    exact ⟨ret_bool (by simp [inB]; omega), rfl⟩
set_option maxRecDepth 100000 in
set_option maxHeartbeats 400000 in
theorem l01Kind_any (n : Int) (w : World) :
    Calls Tryz.prog 140 #[.int .i64 n] w fun e w' => e = .returned (.bool (inB n 0 3)) ∧ w = w' := by
  go_enter Tryz.func140, Tryz.ntmps140
  go_wp2_with (first
    | (go_at_call 61; go_must (refine (l00In_any _ _ _ _).mono ?_); rintro e w_ ⟨rfl, rfl⟩)
    )
  go_ret
  exact ⟨rfl, rfl⟩
set_option maxRecDepth 100000 in
set_option maxHeartbeats 400000 in
theorem l01Seeds_any (n : Int) (w : World) :
    Calls Tryz.prog 141 #[.int .i64 n] w fun e w' => e = .returned (.bool (inB n 0 1000)) ∧ w = w' := by
  go_enter Tryz.func141, Tryz.ntmps141
  go_wp2_with (first
    | (go_at_call 61; go_must (refine (l00In_any _ _ _ _).mono ?_); rintro e w_ ⟨rfl, rfl⟩)
    )
  go_ret
  exact ⟨rfl, rfl⟩

set_option maxRecDepth 100000 in
set_option maxHeartbeats 400000 in
theorem has_any (b : Nat) {t : TypeId} (F : Fld) (hF : F.ok) (c : Int) (w : World) (hb : Blk w b t F.cells) :
    Calls Tryz.prog 47 #[.pointer (some ⟨b, 0, none⟩), .int .i64 c] w fun e w' => e = .returned (.bool (F.has c)) ∧ w = w' := by
  have h0 := hb.cellv F.cell0
  have h1 := hb.cellv F.cell1
  have a0 := hF.w0
  have a1 := hF.w1
  have a2 := hF.h0
  have a3 := hF.h1
  clear hb hF
  cases hc : inB c 0 99
  · have HC := Lib.hid hc
    clear hc
    go_enter Tryz.func47, Tryz.ntmps47
    go_wp2_with (go_at_call 59; refine (within_any _ _ _ _).mono ?_; rintro e w' ⟨rfl, rfl⟩; rw [HC.out])
    go_ret
    exact ⟨ret_bool (by simp [Fld.has, HC.out]), rfl⟩
  · have HC := Lib.hid hc
    have hc2 := inB_iff.1 hc
    have b0 := hc2.1
    have b1 := hc2.2
    clear hc hc2
    go_enter Tryz.func47, Tryz.ntmps47
    go_wp2_with (go_at_call 59; refine (within_any _ _ _ _).mono ?_; rintro e w' ⟨rfl, rfl⟩; rw [HC.out])
    · have hw : c % 10 < F.wide := by assumption
      go_ret
      exact ⟨ret_bool (by simp [Fld.has, HC.out, hw]), rfl⟩
    · have hw : F.wide ≤ c % 10 := by assumption
      go_ret
      exact ⟨ret_bool (by simp [Fld.has, HC.out]; omega), rfl⟩
set_option maxRecDepth 100000 in
set_option maxHeartbeats 400000 in
theorem l01Is_any (b : Nat) {t : TypeId} (F : Fld) (hF : F.ok) (c : Int) (w : World) (hb : Blk w b t F.cells) :
    Calls Tryz.prog 50 #[.pointer (some ⟨b, 0, none⟩), .int .i64 c] w fun e w' => e = .returned (.bool (F.has c)) ∧ w = w' := by
  have h0 := hb.cellv F.cell0
  have h1 := hb.cellv F.cell1
  have a0 := hF.w0
  have a1 := hF.w1
  have a2 := hF.h0
  have a3 := hF.h1
  clear hb hF
  cases hc : inB c 0 99
  · have HC := Lib.hid hc
    clear hc
    go_enter Tryz.func50, Tryz.ntmps50
    go_wp2_with (go_at_call 61; refine (l00In_any _ _ _ _).mono ?_; rintro e w' ⟨rfl, rfl⟩; rw [HC.out])
    go_ret
    exact ⟨ret_bool (by simp [Fld.has, HC.out]), rfl⟩
  · have HC := Lib.hid hc
    have hc2 := inB_iff.1 hc
    have b0 := hc2.1
    have b1 := hc2.2
    clear hc hc2
    go_enter Tryz.func50, Tryz.ntmps50
    go_wp2_with (go_at_call 61; refine (l00In_any _ _ _ _).mono ?_; rintro e w' ⟨rfl, rfl⟩; rw [HC.out])
    · have hw : c % 10 < F.wide := by assumption
      go_ret
      exact ⟨ret_bool (by simp [Fld.has, HC.out, hw]), rfl⟩
    · have hw : F.wide ≤ c % 10 := by assumption
      go_ret
      exact ⟨ret_bool (by simp [Fld.has, HC.out]; omega), rfl⟩
set_option maxRecDepth 100000 in
set_option maxHeartbeats 1000000 in
theorem l01Ok_any (b : Nat) {t : TypeId} (F : Fld) (hF : F.ok) (w : World) (hb : Blk w b t F.cells) :
    Calls Tryz.prog 116 #[.pointer (some ⟨b, 0, none⟩)] w fun e w' => e = .returned (.bool F.valid) ∧ w = w' := by
  have h0 := hb.cellv F.cell0
  have h1 := hb.cellv F.cell1
  have a0 := hF.w0
  have a1 := hF.w1
  have a2 := hF.h0
  have a3 := hF.h1
  have HB := Lib.hid hb
  have HF := Lib.hid hF
  clear hb hF
  cases hw : inB F.wide 1 10
  · have HW := Lib.hid hw
    clear hw
    go_enter Tryz.func116, Tryz.ntmps116
    go_wp2_with (go_at_call 61; refine (l00In_any _ _ _ _).mono ?_; rintro e w' ⟨rfl, rfl⟩; rw [HW.out])
    go_ret
    exact ⟨ret_bool (by simp [Fld.valid, HW.out]), rfl⟩
  have HW := Lib.hid hw
  clear hw
  cases hh : inB F.high 1 10
  · have HH := Lib.hid hh
    clear hh
    go_enter Tryz.func116, Tryz.ntmps116
    go_wp2_with (go_at_call 61; refine (l00In_any _ _ _ _).mono ?_; rintro e w' ⟨rfl, rfl⟩; first | rw [HW.out] | rw [HH.out])
    go_ret
    exact ⟨ret_bool (by simp [Fld.valid, HH.out]), rfl⟩
  have HH := Lib.hid hh
  clear hh
  go_enter Tryz.func116, Tryz.ntmps116
  go_wp2_with (go_at_call 61; refine (l00In_any _ _ _ _).mono ?_; rintro e w' ⟨rfl, rfl⟩; first | rw [HW.out] | rw [HH.out])
  go_loop [3] (fun v => ∃ k : Nat, k ≤ 100 ∧ v = .int .i64 k ∧ ∀ j, j < k → F.okAt j = true) (fun v => 100 - (intOf v).toNat)
  case atStart => exact ⟨0, by omega, rfl, fun j h => by omega⟩
  case round =>
    obtain ⟨k, hk, rfl, ho⟩ := hrel
    have HO := Lib.hid ho
    clear ho
    by_cases hlt : k < 100
    · have hk1 := HB.out.cellv (Fld.cellK HF.out.toLen hlt)
      have hk2 := HB.out.cellv (Fld.cellS HF.out.toLen hlt)
      have b0 := (HF.out.kb k).1
      have b1 := (HF.out.kb k).2
      have b2 := (HF.out.sb k).1
      have b3 := (HF.out.sb k).2
      go_wp2_with (first
        | (go_at_call 140; go_must (refine (l01Kind_any _ _).mono ?_); rintro e w_ ⟨rfl, rfl⟩)
        | (go_at_call 141; go_must (refine (l01Seeds_any _ _).mono ?_); rintro e w_ ⟨rfl, rfl⟩)
        | (go_at_call 50; go_must (refine (l01Is_any b F HF.out _ _ HB.out).mono ?_); rintro e w_ ⟨rfl, rfl⟩)
        )
      all_goals first
        | (go_ret
           refine ⟨ret_bool (Fld.not_valid hlt ?_).symm, rfl⟩
           rw [← Bool.not_eq_true]
           simp only [Fld.okAt, decide_eq_true_eq]
           intro hq
           clear hk1 hk2
           simp_all [inB]
           done)
        | (refine ⟨⟨k + 1, by omega, by go_num, all_succ HO.out ?_⟩, by simp [intOf]; omega⟩
           simp only [Fld.okAt, decide_eq_true_eq]
           clear hk1 hk2
           simp_all [inB]
           done)
    · obtain rfl : k = 100 := by omega
      go_wp2
      go_ret
      exact ⟨ret_bool (Fld.valid_of HW.out HH.out HO.out).symm, rfl⟩

set_option maxRecDepth 100000 in
set_option maxHeartbeats 1000000 in
theorem ValidField_any (F : Fld) (hF : F.ok) (w : World) :
    Calls Tryz.prog 64 #[.agg F.cells] w fun e w' => e = .returned (.bool F.valid) ∧ Mem w w' [] := by
  have M := Lib.hid (Mem.start w)
  have S1 := Lib.hid (Fld.size hF.toLen)
  have c0 := F.cell0
  have c1 := F.cell1
  have a0 := hF.w0
  have a1 := hF.w1
  have a2 := hF.h0
  have a3 := hF.h1
  have HF := Lib.hid hF
  clear hF
  cases hw : inB F.wide 1 10
  · have HW := Lib.hid hw
    clear hw
    go_enter Tryz.func64, Tryz.ntmps64
    go_wp2_with (first
      | ((with_reducible refine gate_dst (N := 1) rfl ?_); go_must (refine M.out.ev_new rfl (by first | (go_simp; done) | (go_simp; rfl)) ?_); intro g1 w1 m; simp only [List.cons_append, List.nil_append] at m; have M := Lib.hid m; clear m; try have q0_1 := M.out.cell (j := 1) 0 rfl (by first | assumption | rfl))
      | ((with_reducible refine gate_dst (N := 7) rfl ?_); go_must (refine M.out.ev_ld 0 _ _ rfl rfl rfl Tryz.underlying24 rfl rfl (by first | assumption | rfl) ?_))
      | ((with_reducible refine gate_dst (N := 24) rfl ?_); go_must (refine M.out.ev_ld 0 _ _ rfl rfl rfl Tryz.underlying5 rfl rfl (by first | assumption | rfl) ?_))
      | ((with_reducible refine gate_dst (N := 28) rfl ?_); go_must (refine M.out.ev_ld 0 _ _ rfl rfl rfl Tryz.underlying26 rfl rfl (by first | assumption | rfl) ?_))
      | (go_at_call 59; refine (within_any _ _ _ _).mono ?_; rintro e w' ⟨rfl, rfl⟩; rw [HW.out]))
    go_ret
    exact ⟨ret_bool (by simp [Fld.valid, HW.out]), M.out.take 0⟩
  have HW := Lib.hid hw
  clear hw
  cases hh : inB F.high 1 10
  · have HH := Lib.hid hh
    clear hh
    go_enter Tryz.func64, Tryz.ntmps64
    go_wp2_with (first
      | ((with_reducible refine gate_dst (N := 13) rfl ?_); have c1b := M.out.cell 0 rfl c1; fail)
      | ((with_reducible refine gate_dst (N := 1) rfl ?_); go_must (refine M.out.ev_new rfl (by first | (go_simp; done) | (go_simp; rfl)) ?_); intro g1 w1 m; simp only [List.cons_append, List.nil_append] at m; have M := Lib.hid m; clear m; try have q0_1 := M.out.cell (j := 1) 0 rfl (by first | assumption | rfl))
      | ((with_reducible refine gate_dst (N := 7) rfl ?_); go_must (refine M.out.ev_ld 0 _ _ rfl rfl rfl Tryz.underlying24 rfl rfl (by first | assumption | rfl) ?_))
      | ((with_reducible refine gate_dst (N := 24) rfl ?_); go_must (refine M.out.ev_ld 0 _ _ rfl rfl rfl Tryz.underlying5 rfl rfl (by first | assumption | rfl) ?_))
      | ((with_reducible refine gate_dst (N := 28) rfl ?_); go_must (refine M.out.ev_ld 0 _ _ rfl rfl rfl Tryz.underlying26 rfl rfl (by first | assumption | rfl) ?_))
      | (go_at_call 59; refine (within_any _ _ _ _).mono ?_; rintro e w' ⟨rfl, rfl⟩; first | rw [HW.out]; have c1b := M.out.cell 0 rfl c1 | rw [HH.out]))
    go_ret
    exact ⟨ret_bool (by simp [Fld.valid, HH.out]), M.out.take 0⟩
  have HH := Lib.hid hh
  clear hh
  go_enter Tryz.func64, Tryz.ntmps64
  go_wp2_with (first
    | ((with_reducible refine gate_dst (N := 1) rfl ?_); go_must (refine M.out.ev_new rfl (by first | (go_simp; done) | (go_simp; rfl)) ?_); intro g1 w1 m; simp only [List.cons_append, List.nil_append] at m; have M := Lib.hid m; clear m; try have q0_1 := M.out.cell (j := 1) 0 rfl (by first | assumption | rfl))
    | ((with_reducible refine gate_dst (N := 7) rfl ?_); go_must (refine M.out.ev_ld 0 _ _ rfl rfl rfl Tryz.underlying24 rfl rfl (by first | assumption | rfl) ?_))
    | ((with_reducible refine gate_dst (N := 24) rfl ?_); go_must (refine M.out.ev_ld 0 _ _ rfl rfl rfl Tryz.underlying5 rfl rfl (by first | assumption | rfl) ?_))
    | ((with_reducible refine gate_dst (N := 28) rfl ?_); go_must (refine M.out.ev_ld 0 _ _ rfl rfl rfl Tryz.underlying26 rfl rfl (by first | assumption | rfl) ?_))
    | (go_at_call 59; refine (within_any _ _ _ _).mono ?_; rintro e w' ⟨rfl, rfl⟩; first | rw [HW.out]; have c1b := M.out.cell 0 rfl c1 | rw [HH.out]))
  go_loopw [18] (fun v wr => ∃ k : Nat, k ≤ 100 ∧ v = .int .i64 k ∧ (∀ j, j < k → F.okAt j = true) ∧ Mem w wr [.blk g1 29 F.cells]) (fun v _ => 100 - (intOf v).toNat)
  case atStart => exact ⟨0, by omega, rfl, fun j h => by omega, M.out⟩
  case round =>
    clear M c1b
    obtain ⟨k, hk, rfl, ho, m⟩ := hrel
    have HO := Lib.hid ho
    have M := Lib.hid m
    clear ho m
    by_cases hlt : k < 100
    · have hk1 := M.out.cell 0 rfl (Fld.cellK HF.out.toLen hlt)
      have hk2 := M.out.cell 0 rfl (Fld.cellS HF.out.toLen hlt)
      have b0 := (HF.out.kb k).1
      have b1 := (HF.out.kb k).2
      have b2 := (HF.out.sb k).1
      have b3 := (HF.out.sb k).2
      have i0 : (0 : Int) ≤ (k : Int) := by omega
      have i1 : (k : Int) < 100 := by omega
      clear c0 c1
      go_wp2_with fail
      go_quiet (fail)
      have M := Lib.hid (M.out.drewN nq)
      go_wp2_with (first
        | (go_at_call 59; go_must (refine (within_any _ _ _ _).mono ?_); rintro e w_ ⟨rfl, rfl⟩)
        | (go_at_call 47; go_must (refine (has_any g1 F HF.out _ _ (M.out.blk 0 rfl)).mono ?_); rintro e w_ ⟨rfl, rfl⟩)
        )
      all_goals first
        | (go_ret
           refine ⟨ret_bool (Fld.not_valid hlt ?_).symm, M.out.take 0⟩
           rw [← Bool.not_eq_true]
           simp only [Fld.okAt, decide_eq_true_eq]
           intro hq
           clear hk1 hk2
           first | (simp_all [inB]; done) | (simp_all [inB]; omega))
        | (refine ⟨⟨k + 1, by omega, by go_num, all_succ HO.out ?_, M.out⟩, by simp [intOf]; omega⟩
           simp only [Fld.okAt, decide_eq_true_eq]
           clear hk1 hk2
           first | (simp_all [inB]; done) | (simp_all [inB]; omega))
    · obtain rfl : k = 100 := by omega
      go_wp2
      go_ret
      exact ⟨ret_bool (Fld.valid_of HW.out HH.out HO.out).symm, M.out.take 0⟩
end Go.Proofs.YtoacnfofijikmaaGreatDoor
namespace Go.Proofs.YtoacnfofijikmaaGreatDoor
set_option linter.unusedSimpArgs false
set_option linter.unusedVariables false
open Go.RowKit
attribute [local go_sem] cell?_mk frozen?_mk

set_option maxRecDepth 100000 in
set_option maxHeartbeats 1000000 in
theorem l00Min_any (a b : Int) (w : World) :
    Calls Tryz.prog 100 #[.int .i64 a, .int .i64 b] w fun e w' => e = .returned (.int .i64 (min a b)) ∧ w = w' := by
  by_cases h : a < b
  · go_enter Tryz.func100, Tryz.ntmps100
    go_wp2
    go_ret
    exact ⟨ret_int (by omega), rfl⟩
  · go_enter Tryz.func100, Tryz.ntmps100
    go_wp2
    go_ret
    exact ⟨ret_int (by omega), rfl⟩
end Go.Proofs.YtoacnfofijikmaaGreatDoor
namespace Go.Proofs.YtoacnfofijikmaaGreatDoor
set_option linter.unusedSimpArgs false
set_option linter.unusedVariables false
open Go.ChangeShapes Go.WideShapes Go.RowKit Go.Deep

/-- The kinds of the whole numbers that a value of a type is made of, if it is made of nothing else. -/
def leavesGo (cells : TypeId → Nat) (L : TypeId → Option (List IntKind)) : List Field → Nat → Option (List IntKind)
  | [], _ => some []
  | f :: r, off => match L f.type with
    | none => none
    | some l => if f.offset = off ∧ cells f.type = l.length then (leavesGo cells L r (off + l.length)).map (l ++ ·) else none
def leaves (P : Program) : Nat → TypeId → Option (List IntKind)
  | 0, _ => none
  | d + 1, t => match P.underlying t with
    | some (.int k) => some [k]
    | some (.struct fs) => leavesGo P.cellsOf (leaves P d) fs.toList 0
    | some (.array n e) => match leaves P d e with
      | none => none
      | some l => if P.cellsOf e = l.length then some (List.replicate n l).flatten else none
    | _ => none

/-- Cells that are whole numbers of these kinds. -/
def Conf (ks : List IntKind) (cs : List Value) : Prop :=
  cs.length = ks.length ∧ ∀ (i : Nat) (k : IntKind), ks[i]? = some k → ∃ n : Int, cs[i]? = some (Value.int k n) ∧ (Lit.int k n).wf = true

theorem Conf.append {ks ks' : List IntKind} {cs : List Value} (h : Conf ks (cs.take ks.length)) (h' : Conf ks' (cs.drop ks.length)) : Conf (ks ++ ks') cs := by
  have hl := h.1
  have hl' := h'.1
  simp only [List.length_take, List.length_drop] at hl hl'
  refine ⟨by simp; omega, fun i k hk => ?_⟩
  rcases Nat.lt_or_ge i ks.length with hi | hi
  · rw [List.getElem?_append_left hi] at hk
    obtain ⟨n, h1, h2⟩ := h.2 i k hk
    rw [List.getElem?_take_of_lt hi] at h1
    exact ⟨n, h1, h2⟩
  · rw [List.getElem?_append_right hi] at hk
    obtain ⟨n, h1, h2⟩ := h'.2 _ k hk
    rw [List.getElem?_drop, show ks.length + (i - ks.length) = i by omega] at h1
    exact ⟨n, h1, h2⟩
theorem Conf.nil {cs : List Value} (h : cs.length = 0) : Conf [] cs := ⟨by simpa using h, fun i k hk => by simp at hk⟩

section
variable {H : Type} {enc : TypeId × Value → H} {P : Program} {w : World} {base : Nat} {spare : Nat → Bool} {held : Bool}
theorem leavesGo_conf {L : TypeId → Option (List IntKind)} (cs : List Value) : ∀ (fs : List Field) (off : Nat) (ks : List IntKind), leavesGo P.cellsOf L fs off = some ks →
    (∀ f ∈ fs, ∀ l, L f.type = some l → Conf l ((cs.drop f.offset).take (P.cellsOf f.type))) → Conf ks ((cs.drop off).take ks.length)
  | [], off, ks, h, _ => by
    simp only [leavesGo, Option.some.injEq] at h
    subst h
    exact Conf.nil (by simp)
  | f :: r, off, ks, h, hf => by
    simp only [leavesGo] at h
    cases hl : L f.type with
    | none => simp [hl] at h
    | some l =>
      simp only [hl] at h
      split at h
      · rename_i hc
        cases hr : leavesGo P.cellsOf L r (off + l.length) with
        | none => simp [hr] at h
        | some ks' =>
          simp only [hr, Option.map_some, Option.some.injEq] at h
          subst h
          have h1 := hf f (by simp) l hl
          rw [hc.1, hc.2] at h1
          have h2 := leavesGo_conf cs r (off + l.length) ks' hr (fun g hg => hf g (by simp [hg]))
          refine Conf.append ?_ ?_
          · rw [List.take_take, List.length_append, Nat.min_eq_left (by omega)]
            exact h1
          · rw [List.length_append, List.drop_take, List.drop_drop, show l.length + ks'.length - l.length = ks'.length by omega]
            exact h2
      · cases h
theorem replicate_conf {l : List IntKind} (cs : List Value) : ∀ (n off : Nat), (∀ i, i < n → Conf l ((cs.drop (off + i * l.length)).take l.length)) → Conf (List.replicate n l).flatten ((cs.drop off).take (n * l.length))
  | 0, off, _ => by simpa using Conf.nil (by simp)
  | n + 1, off, h => by
    rw [List.replicate_succ, List.flatten_cons]
    have h0 := h 0 (by omega)
    simp only [Nat.zero_mul, Nat.add_zero] at h0
    have h1 := replicate_conf (l := l) cs n (off + l.length) (fun i hi => by
      have := h (i + 1) (by omega)
      rwa [Nat.add_mul, Nat.one_mul, show off + (i * l.length + l.length) = off + l.length + i * l.length by omega] at this)
    refine Conf.append ?_ ?_
    · rw [List.take_take, Nat.min_eq_left (by rw [Nat.add_mul]; omega)]
      exact h0
    · rw [List.drop_take, List.drop_drop, show (n + 1) * l.length - l.length = n * l.length by rw [Nat.add_mul]; omega]
      exact h1
theorem leaves_conf : ∀ (d : Nat) (t : TypeId) (ks : List IntKind), leaves P d t = some ks → ∀ (fuel : Nat) (cs : List Value) (x : DataW H × List MemPlace), DataW.trod enc P w base spare held fuel t cs = some x → P.cellsOf t = ks.length → Conf ks cs
  | 0, t, ks, h => by simp [leaves] at h
  | d + 1, t, ks, h => by
    intro fuel cs x hx hc
    simp only [leaves] at h
    split at h
    · rename_i k ht
      simp only [Option.some.injEq] at h
      subst h
      obtain ⟨n, rfl, _, hw⟩ := DataW.trod_int ht hx
      refine ⟨rfl, fun i k' hk => ?_⟩
      have hi : i = 0 := by
        rcases Nat.eq_zero_or_pos i with h0 | h0
        · exact h0
        · rw [List.getElem?_eq_none (by simp; omega)] at hk; cases hk
      subst hi
      simp only [List.getElem?_cons_zero, Option.some.injEq] at hk
      subst hk
      exact ⟨n, rfl, hw⟩
    · rename_i fs ht
      obtain ⟨xs, n, _, _, hlen, hxl, hf⟩ := DataW.trod_struct ht hx
      have := leavesGo_conf (P := P) (L := leaves P d) cs fs.toList 0 ks h (fun f hfm l hl => by
        obtain ⟨i, hi⟩ := List.getElem?_of_mem hfm
        rw [Array.getElem?_toList] at hi
        have h1 := hf i f hi
        have hil : i < xs.length := by rw [hxl]; exact (Array.getElem?_eq_some_iff.1 hi).1
        rw [List.getElem?_eq_getElem hil] at h1
        have hcl : P.cellsOf f.type = l.length := by
          have key : ∀ (gs : List Field) (off : Nat) (ks : List IntKind), leavesGo P.cellsOf (leaves P d) gs off = some ks → f ∈ gs → P.cellsOf f.type = l.length := by
            intro gs
            induction gs with
            | nil => intro off ks _ hm; simp at hm
            | cons g r ih =>
              intro off ks hg hm
              simp only [leavesGo] at hg
              cases hlg : leaves P d g.type with
              | none => simp [hlg] at hg
              | some lg =>
                simp only [hlg] at hg
                split at hg
                · rename_i hcg
                  cases hr : leavesGo P.cellsOf (leaves P d) r (off + lg.length) with
                  | none => simp [hr] at hg
                  | some ks' =>
                    rcases List.mem_cons.1 hm with rfl | hm'
                    · rw [hl] at hlg
                      injection hlg with hlg
                      rw [hlg]
                      exact hcg.2
                    · exact ih _ _ hr hm'
                · cases hg
          exact key _ _ _ h hfm
        exact leaves_conf d f.type l hl _ _ _ h1 hcl)
      rwa [List.drop_zero, List.take_of_length_le (by omega)] at this
    · rename_i n e ht
      cases hl : leaves P d e with
      | none => simp [hl] at h
      | some l =>
        simp only [hl] at h
        split at h
        · rename_i hce
          simp only [Option.some.injEq] at h
          subst h
          obtain ⟨xs, m, _, _, hlen, hxl, hf⟩ := DataW.trod_array ht hx
          have h2 := replicate_conf (l := l) cs n 0 (fun i hi => by
            have h1 := hf i hi
            rw [List.getElem?_eq_getElem (by omega), hce] at h1
            rw [Nat.zero_add]
            exact leaves_conf d e l hl _ _ _ h1 hce)
          have hn : cs.length = n * l.length := by rw [hlen, hc]; simp
          rwa [List.drop_zero, List.take_of_length_le (by omega)] at h2
        · cases h
    · cases h
end

/-- The number in a cell. -/
def intOf' : Value → Int
  | .int _ n => n
  | _ => 0
section
variable {H : Type} {enc : TypeId × Value → H} {P : Program} {w : World} {base : Nat} {spare : Nat → Bool} {held : Bool}
/-- An argument that is a slice of whole numbers, or of structs of such. -/
theorem open_sl {r : Reach} {b0 : Nat} {t e : TypeId} {d0 : Nat} {ks : List IntKind} (ht : P.underlying t = some (.slice e)) (hk : leaves P d0 e = some ks) (hC : P.cellsOf e = ks.length) (hp : 0 < ks.length)
    {α : Type} (en : α → List Value) (ok : α → Prop) (hen : ∀ x, (en x).length = ks.length) (hconf : ∀ cs, Conf ks cs → ∃ x, ok x ∧ en x = cs)
    {v : Value} {d : DataW H} {p : List MemPlace} (hv : Value.okWide P w r b0 t v) (h : DataW.Trod enc P w base spare held t v d p) :
    ∃ (A : Option Addr) (c : Nat) (xs : List α), v = .slice A xs.length c ∧ xs.length ≤ c ∧ c ≤ maxLen ∧ (∀ x ∈ xs, ok x) ∧ Sl w ks.length A xs.length (flat en xs) := by
  obtain ⟨a0, len, cap, rfl⟩ := okWide_slice ht hv
  obtain ⟨fuel, hf⟩ := h
  rcases open_slice ht hf with ⟨hcs, _⟩ | ⟨a, len', cap', m, n, D, Pl, hcs, _, hl, hm, hmm, _, hi⟩
  · simp only [Value.cells, List.cons.injEq, Value.slice.injEq, and_true] at hcs
    obtain ⟨rfl, rfl, rfl⟩ := hcs
    exact ⟨none, 0, [], rfl, by simp, by unfold maxLen; omega, by simp, Sl.nil_⟩
  · simp only [Value.cells, List.cons.injEq, Value.slice.injEq, and_true] at hcs
    obtain ⟨rfl, rfl, rfl⟩ := hcs
    have hml : len ≤ m := by
      rw [hmm]
      split <;> omega
    have hel : ∀ i, i < len → ∃ x : α, ok x ∧ ∀ j v, (en x)[j]? = some v → w.cell? ((a.add (i * ks.length)).add j) = some v := by
      intro i hi'
      obtain ⟨cs', hc', hx'⟩ := hi i (by omega)
      rw [hC] at hc'
      obtain ⟨x, hx, hxe⟩ := hconf cs' (leaves_conf d0 e ks hk _ _ _ hx' hC)
      obtain ⟨_, hlen, hcell⟩ := World.cells?_some hc'
      refine ⟨x, hx, fun j v hj => ?_⟩
      rw [hxe] at hj
      rw [hcell j (by have := (List.getElem?_eq_some_iff.1 hj).1; omega), hj]
    obtain ⟨xs, hxl, hxs⟩ : ∃ xs : List α, xs.length = len ∧ ∀ (i : Nat) (x : α), xs[i]? = some x → ok x ∧ ∀ (j : Nat) (v : Value), (en x)[j]? = some v → w.cell? ((a.add (i * ks.length)).add j) = some v := by
      have key : ∀ k, k ≤ len → ∃ xs : List α, xs.length = k ∧ ∀ (i : Nat) (x : α), xs[i]? = some x → ok x ∧ ∀ (j : Nat) (v : Value), (en x)[j]? = some v → w.cell? ((a.add (i * ks.length)).add j) = some v := by
        intro k
        induction k with
        | zero => intro _; exact ⟨[], rfl, fun i x h => by simp at h⟩
        | succ k ih =>
          intro hk'
          obtain ⟨xs, h1, h2⟩ := ih (by omega)
          obtain ⟨x, h3, h4⟩ := hel k (by omega)
          refine ⟨xs ++ [x], by simp [h1], fun i y hy => ?_⟩
          rcases Nat.lt_or_ge i xs.length with hi' | hi'
          · rw [List.getElem?_append_left hi'] at hy
            exact h2 i y hy
          · rw [List.getElem?_append_right hi'] at hy
            have : i - xs.length = 0 := by
              rcases Nat.eq_zero_or_pos (i - xs.length) with h0 | h0
              · exact h0
              · rw [List.getElem?_eq_none (by simp; omega)] at hy; cases hy
            rw [this] at hy
            simp only [List.getElem?_cons_zero, Option.some.injEq] at hy
            subst hy
            obtain rfl : i = k := by omega
            exact ⟨h3, h4⟩
      exact key len (Nat.le_refl _)
    refine ⟨some a, cap, xs, by rw [hxl], by omega, hm, fun x hx => ?_, ?_⟩
    · obtain ⟨i, hi'⟩ := List.getElem?_of_mem hx
      exact (hxs i x hi').1
    · refine ⟨flat_len hen xs, fun hn => ?_⟩
      obtain ⟨x0, hx0⟩ : ∃ x, xs[0]? = some x := ⟨xs[0], List.getElem?_eq_getElem hn⟩
      have hspot : a.spot = none := by
        have hv0 : (en x0)[0]? = some ((en x0)[0]'(by rw [hen]; exact hp)) := List.getElem?_eq_getElem _
        have := (hxs 0 x0 hx0).2 0 _ hv0
        simp only [Nat.zero_mul, Addr.add, if_true] at this
        exact World.cell?_spot this
      obtain ⟨b, off, spot⟩ := a
      simp only at hspot
      subst hspot
      refine ⟨b, off, rfl, fun j v hj => ?_⟩
      have hjl : j < (flat en xs).length := (List.getElem?_eq_some_iff.1 hj).1
      rw [flat_len hen] at hjl
      have hi' : j / ks.length < xs.length := by rw [Nat.div_lt_iff_lt_mul hp]; exact hjl
      have hm' : j % ks.length < ks.length := Nat.mod_lt _ hp
      have hx : xs[j / ks.length]? = some xs[j / ks.length] := List.getElem?_eq_getElem hi'
      have hv' : (en xs[j / ks.length])[j % ks.length]? = some ((en xs[j / ks.length])[j % ks.length]'(by rw [hen]; exact hm')) := List.getElem?_eq_getElem _
      have hjj : j / ks.length * ks.length + j % ks.length = j := by rw [Nat.mul_comm]; exact Nat.div_add_mod j ks.length
      have h1 := flat_at hen hx hv'
      rw [hjj, hj] at h1
      injection h1 with h1
      have h2 := (hxs _ _ hx).2 _ _ hv'
      rw [Addr.add_mid, Addr.add_mid, Nat.add_assoc, hjj] at h2
      rw [h2, h1]
end
end Go.Proofs.YtoacnfofijikmaaGreatDoor
namespace Go.Proofs.YtoacnfofijikmaaGreatDoor
set_option linter.unusedSimpArgs false
set_option linter.unusedVariables false
open Go.ChangeShapes Go.WideShapes Go.RowKit Go.Deep

theorem Conf.cons {k : IntKind} {ks : List IntKind} {cs : List Value} (h : Conf (k :: ks) cs) : ∃ n r, cs = Value.int k n :: r ∧ (Lit.int k n).wf = true ∧ Conf ks r := by
  obtain ⟨n, h1, h2⟩ := h.2 0 k rfl
  cases cs with
  | nil => cases h1
  | cons v r =>
    simp only [List.getElem?_cons_zero, Option.some.injEq] at h1
    subst h1
    refine ⟨n, r, rfl, h2, by simpa using h.1, fun i k' hk => ?_⟩
    obtain ⟨m, h3, h4⟩ := h.2 (i + 1) k' (by simpa using hk)
    exact ⟨m, by simpa using h3, h4⟩
theorem Conf.nil_eq {cs : List Value} (h : Conf [] cs) : cs = [] := List.length_eq_zero_iff.1 (by simpa using h.1)
theorem Conf.reps {k : IntKind} {n : Nat} {ks : List IntKind} {cs : List Value} (h : Conf (List.replicate n k ++ ks) cs) :
    ∃ (xs : List Int) (r : List Value), cs = xs.map (Value.int k) ++ r ∧ xs.length = n ∧ (∀ x ∈ xs, (Lit.int k x).wf = true) ∧ Conf ks r := by
  induction n generalizing cs with
  | zero => exact ⟨[], cs, rfl, rfl, by simp, by simpa using h⟩
  | succ n ih =>
    rw [List.replicate_succ, List.cons_append] at h
    obtain ⟨x, r, rfl, hw, hr⟩ := h.cons
    obtain ⟨xs, r', rfl, hl, hx, hr'⟩ := ih hr
    refine ⟨x :: xs, r', by simp, by simp [hl], fun y hy => ?_, hr'⟩
    rcases List.mem_cons.1 hy with rfl | hy
    · exact hw
    · exact hx y hy
end Go.Proofs.YtoacnfofijikmaaGreatDoor
