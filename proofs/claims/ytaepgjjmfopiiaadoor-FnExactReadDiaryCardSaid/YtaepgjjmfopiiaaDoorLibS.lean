/- What the program asks of Go's library for its texts: builders, joined texts, numerals; over memory of one's own. -/
import Derived.Test.YtaepgjjmfopiiaaDoorShelf
import Derived.Test.YtaepgjjmfopiiaaDoorGen2
import Derived.Test.YtaepgjjmfopiiaaDoorRowI0
import Derived.WalkSmall
import Derived.Lib.AppendIntMem
import Derived.Lib.ItoaLen
import Derived.Lib.ItoaMem
import Derived.Laws.Concat
import Derived.Test.YtaepgjjmfopiiaaDoorHeld3
namespace Go.Proofs.YtaepgjjmfopiiaaDoor
set_option linter.unusedSimpArgs false
set_option linter.unusedVariables false
open Go.RowKit
attribute [local go_sem] cell?_mk frozen?_mk

theorem elem_uint8 : ElemOk Tryd.prog 71 5 (.int .u8 0) 1 1 := ⟨by kernel_rfl, by kernel_rfl, by kernel_rfl, by decide⟩
theorem elem_string : ElemOk Tryd.prog 28 9 (.string ByteArray.empty) 1 16 := ⟨by kernel_rfl, by kernel_rfl, by kernel_rfl, by decide⟩
/-- The table that numerals want. -/
def Tab (w : World) : Prop := Lib.TabIs Tryd.prog w "internal/strconv.uint64pow10" .u64 Lib.pow10Tab
theorem Mem.tab {w0 w : World} {L : List Ent} (M : Mem w0 w L) (h : Tab w0) : Tab w := by
  unfold Tab Lib.TabIs at h ⊢
  have h' := h
  unfold World.var? at h'
  obtain ⟨g, hg, hx⟩ := Option.bind_eq_some_iff.1 h'
  have hlt : g < w0.heap.size := by
    rcases Nat.lt_or_ge g w0.heap.size with h1 | h1
    · exact h1
    · rw [Array.getElem?_eq_none h1] at hx
      cases hx
  exact var?_below M.below hg hlt h
theorem Mem.of_below {w w' : World} (h : Below w.heap.size w w') : Mem w w' [] := ⟨h, fun i x h => by simp at h, fun i j x y _ h => by simp at h⟩
/-- A row of texts. -/
def oneS (x : ByteArray) : List Value := [.string x]
theorem oneS_len (x : ByteArray) : (oneS x).length = 1 := rfl
theorem oneS_ones (x : ByteArray) : ∀ v ∈ oneS x, v.oneCell' = true := by
  intro v hv
  simp only [oneS, List.mem_cons, List.not_mem_nil, or_false] at hv
  subst hv
  rfl
theorem FormatInt_any (n : Int) (h0 : -9223372036854775808 ≤ n) (h1 : n ≤ 9223372036854775807) (w : World) (ht : Tab w) :
    Calls Tryd.prog 23 #[.int .i64 n, .int .i64 10] w fun e w' => e = .returned (.string ⟨(Lib.itoa n).toArray⟩) ∧ Mem w w' [] := by
  refine (Tryd.strconv_FormatInt_10 n h0 h1 w ht).mono ?_
  rintro e w' ⟨rfl, k, os, rfl⟩
  exact ⟨rfl, Mem.of_below (Lib.below_grow _ w (Nat.le_refl _) k os)⟩
section
variable {P : Program} {ops : Array Oper} {Q : Exit → Act → World → Prop} {rest : List Oper} {a : Act} {w : World} {o : Oper}
/-- Two texts put together. -/
theorem ev_cat (T : TypeId) (x y : Operand) (ty : TypeId) (ho : o.op = .binOp .add T x y ty) (hgd : o.guard = none) (l m : List UInt8) (hu : P.underlying T = some .string) (hx : a.eval x = .string ⟨l.toArray⟩) (hy : a.eval y = .string ⟨m.toArray⟩) (hl : l.length + m.length ≤ 9223372036854775807)
    (h : wpList P ops Q rest (a.put o.dst (.string ⟨(l ++ m).toArray⟩)) w) : wpList P ops Q (o :: rest) a w := by
  refine wpList_plain hgd fun K hK => ?_
  unfold Oper.wp execOp
  have h9 : ¬ (9223372036854775807 < l.length + m.length) := by omega
  have e : (⟨l.toArray⟩ : ByteArray) ++ ⟨m.toArray⟩ = ⟨(l ++ m).toArray⟩ := by apply ByteArray.ext; simp
  have hs : (⟨l.toArray⟩ : ByteArray).size + (⟨m.toArray⟩ : ByteArray).size ≤ 9223372036854775807 := by simp [ByteArray.size]; omega
  have hr : (binOp .add T (.string ⟨l.toArray⟩) (.string ⟨m.toArray⟩)).run P w = .ok (.string ⟨(l ++ m).toArray⟩) w := by
    rw [← e]
    simp only [binOp, Sem.run_bind, run_underlying hu, Result.andThen_ok]
    exact run_string_add_sum w _ _ hs
  simp only [ho, hx, hy, eqGuard_add, Sem.run_bind, Sem.run_pure, hr, Result.andThen_ok]
  exact hK _ _ h
end
section
variable {P : Program} {ops : Array Oper} {S : World → Prop} {a : Act} {o : Oper}
theorem yld_cat (T : TypeId) (x y : Operand) (ty : TypeId) (ho : o.op = .binOp .add T x y ty) (hgd : o.guard = none) (l m : List UInt8) (hu : P.underlying T = some .string) (hx : a.eval x = .string ⟨l.toArray⟩) (hy : a.eval y = .string ⟨m.toArray⟩) (hl : l.length + m.length ≤ 9223372036854775807) : YieldsIf P ops S o (.string ⟨(l ++ m).toArray⟩) a :=
  .inl ⟨by simp [Region.wanted, hgd], fun w _ => by
    unfold execOp
    have e : (⟨l.toArray⟩ : ByteArray) ++ ⟨m.toArray⟩ = ⟨(l ++ m).toArray⟩ := by apply ByteArray.ext; simp
    have hs : (⟨l.toArray⟩ : ByteArray).size + (⟨m.toArray⟩ : ByteArray).size ≤ 9223372036854775807 := by simp [ByteArray.size]; omega
    have hr : (binOp .add T (.string ⟨l.toArray⟩) (.string ⟨m.toArray⟩)).run P w = .ok (.string ⟨(l ++ m).toArray⟩) w := by
      rw [← e]
      simp only [binOp, Sem.run_bind, run_underlying hu, Result.andThen_ok]
      exact run_string_add_sum w _ _ hs
    simp only [ho, hx, hy, eqGuard_add, Sem.run_bind, Sem.run_pure, hr, Result.andThen_ok]⟩
end
theorem flat_cellsV {vs : List Value} (h : ∀ v ∈ vs, v.cells = #[v]) : vs.flatMap (fun v => v.cells.toList) = vs := by
  induction vs with
  | nil => rfl
  | cons x r ih => rw [List.flatMap_cons, ih fun v hv => h v (List.mem_cons_of_mem _ hv), h x (by simp)]; rfl
section
variable {P : Program} {ops : Array Oper} {rest : List Oper} {o : Oper} {a : Act} {w0 w : World} {Q : Exit → Act → World → Prop} {L : List Ent}
/-- []T{x, y, ..}, elements of one cell. -/
theorem Mem.ev_bsV (M : Mem w0 w L) {T e : TypeId} {zv : Value} {bytes : Nat} (E : ElemOk P T e zv 1 bytes) (hgd : o.guard = none) (n : Nat) (parts : Array (Nat × Operand)) (ho : o.op = .buildSlice T n parts)
    (vs : List Value) (hv : ∀ v ∈ vs, v.cells = #[v]) (hn : vs.length = n) (hn0 : 0 < n) (hn2 : n ≤ 2 ^ 24) (hx : (parts.map fun (i, x) => (i, a.eval x)).toList = (vs.zipIdx 0).map fun x => (x.2, x.1))
    (h : ∀ g w1, Mem w0 w1 (L ++ [.blk g e vs.toArray]) → wpList P ops Q rest (a.put o.dst (.slice (some ⟨g, 0, none⟩) n n)) w1) : wpList P ops Q (o :: rest) a w := by
  obtain ⟨i, hi, h1, h2, h3⟩ := E.get
  refine wpList_buildSlice hgd T e n _ ho vs.toArray i zv E.sl hi h1 (by rw [h2]; omega) (by rw [h2]; omega) ?_ ?_
  · rw [hx, h2]
    have hz : zv.cells.size = 1 := E.zs
    have := Great.fill_whole (s := 1) (by omega) vs ((Array.range (n * 1)).map (zv.cells[· % zv.cells.size]!)) (fun v hv' => by rw [hv v hv']; rfl) (by simp [hn])
    rw [this, flat_cellsV hv]
  · exact h _ _ (M.new (Nat.le_refl _) (Blk.new w e _) ((Below.refl _ _).alloc (Nat.le_refl _) _))
end
end Go.Proofs.YtaepgjjmfopiiaaDoor
