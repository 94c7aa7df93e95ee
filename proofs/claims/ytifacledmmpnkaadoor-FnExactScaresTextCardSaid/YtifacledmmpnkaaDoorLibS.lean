/- What the program asks of Go's library for its texts: builders, joined texts, numerals; over memory of one's own. -/
import Derived.Test.YtifacledmmpnkaaDoorShelf
import Derived.Test.YtifacledmmpnkaaDoorGen2
import Derived.Test.YtifacledmmpnkaaDoorRowI0
import Derived.WalkSmall
import Derived.Lib.AppendIntMem
import Derived.Lib.ItoaLen
import Derived.Lib.ItoaMem
import Derived.Laws.Concat
import Derived.Test.YtifacledmmpnkaaDoorHeld3
namespace Go.Proofs.YtifacledmmpnkaaDoor
set_option linter.unusedSimpArgs false
set_option linter.unusedVariables false
open Go.RowKit
attribute [local go_sem] cell?_mk frozen?_mk

theorem elem_uint8 : ElemOk Tryd.prog 62 5 (.int .u8 0) 1 1 := ⟨by kernel_rfl, by kernel_rfl, by kernel_rfl, by decide⟩
theorem elem_string : ElemOk Tryd.prog 70 9 (.string ByteArray.empty) 1 16 := ⟨by kernel_rfl, by kernel_rfl, by kernel_rfl, by decide⟩
/-- The table that numerals want. -/
def Tab (w : World) : Prop := Lib.TabIs Tryd.prog w "internal/strconv.uint64pow10" .u64 Lib.pow10Tab
theorem Mem.tab {w0 w : World} {L : List Ent} (M : Mem w0 w L) (h : Tab w0) : Tab w := by
  unfold Tab Lib.TabIs at h ⊢
  have h' := h
  unfold World.var? at h'
  obtain ⟨g, hg, hx⟩ := Option.bind_eq_some_iff.1 h'
  have hlt : g < w0.heap.size := by
    rcases Nat.lt_or_ge g w0.heap.size with h1 | h1
    · exact h1
    · rw [Array.getElem?_eq_none h1] at hx
      cases hx
  exact var?_below M.below hg hlt h
/-- A builder of one's own, and what it holds. -/
def Bld (w0 w : World) (g : Nat) (bs : List Value) : Prop := Below w0.heap.size w0 w ∧ Lib.IsBuilderF 64 5 w0.heap.size g bs w
theorem Bld.of_new {w0 w : World} {g : Nat} (M : Mem w0 w [.blk g 64 #[.pointer none, .slice none 0 0]]) : Bld w0 w g [] :=
  ⟨M.below, .inl ⟨M.base 0 rfl, .slice none 0 0, M.blk 0 rfl, World.ownsRowF_nil _ _ _ _, by simp [Value.ownBlock]⟩⟩
theorem Bld.lt {w0 w : World} {g : Nat} {bs : List Value} (h : Bld w0 w g bs) : g < w.heap.size := by
  rcases h.2 with h | h
  · exact h.lt
  · exact h.lt
theorem Bld.kept {w0 w w1 : World} {g : Nat} {bs : List Value} (h : Bld w0 w g bs) (hb : Below w.heap.size w w1) : Bld w0 w1 g bs := by
  refine ⟨below_then h.1 hb, ?_⟩
  have key : ∀ p, Lib.BuilderAtF 64 5 w0.heap.size g p bs w → Lib.BuilderAtF 64 5 w0.heap.size g p bs w1 := by
    rintro p ⟨h1, v, h2, h3, h4⟩
    have hlt : g < w.heap.size := Lib.BuilderAtF.lt ⟨h1, v, h2, h3, h4⟩
    refine ⟨h1, v, (hb.block _ hlt).trans h2, ⟨h3.1, ?_⟩, h4⟩
    rcases h3.2 with hn | ⟨k, cap, cur, fz, rfl, hk, hg, rest⟩
    · exact .inl hn
    · have hkl : k < w.heap.size := (Array.getElem?_eq_some_iff.1 hg).1
      exact .inr ⟨k, cap, cur, fz, rfl, hk, (hb.block _ hkl).trans hg, rest⟩
  exact h.2.imp (key _) (key _)
theorem Bld.mem {w0 w : World} {g : Nat} {bs : List Value} (h : Bld w0 w g bs) : Mem w0 w [] := ⟨h.1, fun i x h => by simp at h, fun i j x y _ h => by simp at h⟩
/-- What is written: the builder has it behind what it had; what lies apart stays. -/
theorem WriteString_any {w0 w : World} {g : Nat} {l : List UInt8} (s : List UInt8) (H : Bld w0 w g (Lib.byteCells l)) (hl : l.length + s.length ≤ 140737488355328) :
    Calls Tryd.prog 36 #[.pointer (some ⟨g, 0, none⟩), .string ⟨s.toArray⟩] w fun e w' => e = .returned (.tuple #[.int .i64 s.length, .nilIface]) ∧ Bld w0 w' g (Lib.byteCells (l ++ s)) ∧ Lib.OthersKept 5 (some g) w w' := by
  refine (Tryd.Builder_WriteString_k w0.heap.size g _ ⟨s.toArray⟩ w H.2 (by unfold Lib.byteCells; rw [List.length_map]; exact hl) H.1.size).mono ?_
  rintro e w' ⟨rfl, h1, h2, h3⟩
  have e1 : Lib.byteCells (l ++ s) = Lib.byteCells l ++ Lib.strCells ⟨s.toArray⟩ := by simp [Lib.byteCells, Lib.strCells]
  rw [e1]
  exact ⟨rfl, ⟨H.1.trans h2, .inr h1⟩, h3⟩
theorem String_any {w0 w : World} {g : Nat} {l : List UInt8} (H : Bld w0 w g (Lib.byteCells l)) :
    Calls Tryd.prog 39 #[.pointer (some ⟨g, 0, none⟩)] w fun e w' => e = .returned (.string ⟨l.toArray⟩) ∧ Mem w0 w' [] := by
  refine (Tryd.Builder_String_any_k w0.heap.size g l w H.2 H.1.size).mono ?_
  rintro e w' ⟨rfl, _, h2, _⟩
  exact ⟨rfl, H.1.trans h2, fun i x h => by simp at h, fun i j x y _ h => by simp at h⟩
theorem Mem.of_below {w w' : World} (h : Below w.heap.size w w') : Mem w w' [] := ⟨h, fun i x h => by simp at h, fun i j x y _ h => by simp at h⟩
/-- A row of texts. -/
def oneS (x : ByteArray) : List Value := [.string x]
theorem oneS_len (x : ByteArray) : (oneS x).length = 1 := rfl
theorem oneS_ones (x : ByteArray) : ∀ v ∈ oneS x, v.oneCell' = true := by
  intro v hv
  simp only [oneS, List.mem_cons, List.not_mem_nil, or_false] at hv
  subst hv
  rfl
theorem Join_any {w0 w : World} {L : List Ent} (M : Mem w0 w L) (i : Nat) {A : Option Addr} {c : Nat} {xs : List ByteArray} (hL : L[i]? = some (.row (.slice A xs.length c) 9 1 xs.length (flat oneS xs))) (sep : ByteArray) (hN : xs.length ≤ 140737488355328) (hlen : (Lib.join (xs.map (·.data.toList)) sep.data.toList).length ≤ 140737488355328) :
    Calls Tryd.prog 46 #[.slice A xs.length c, .string sep] w fun e w' => e = .returned (.string ⟨(Lib.join (xs.map (·.data.toList)) sep.data.toList).toArray⟩) ∧ Mem w w' [] := by
  cases xs with
  | nil =>
    refine (Tryd.strings_Join_none A c sep w).mono ?_
    rintro e w' ⟨rfl, rfl⟩
    exact ⟨by simp [Lib.join, List.intercalate], Mem.start _⟩
  | cons x xs =>
    obtain ⟨g, cap, he, hc⟩ := M.row_form i hL (by simp)
    obtain ⟨rfl, rfl⟩ : A = some ⟨g, 0, none⟩ ∧ c = cap := by injection he with e1 _ e2; exact ⟨e1, e2⟩
    have hlt := ((M.all i _ hL).lt (k := g) rfl).2
    refine (Tryd.strings_Join g 0 c (x :: xs) sep w (fun j y hj => ?_) hlt hN (M.row_le i hL).1 hlen).mono ?_
    · rw [Nat.zero_add]
      have := M.row_cell i hL (j := j) (u := .string y) (by simpa [oneS] using flat_at oneS_len hj (j := 0) (v := .string y) rfl)
      exact this
    · rintro e w' ⟨rfl, h⟩
      exact ⟨rfl, Mem.of_below h⟩
theorem FormatInt_any (n : Int) (h0 : -9223372036854775808 ≤ n) (h1 : n ≤ 9223372036854775807) (w : World) (ht : Tab w) :
    Calls Tryd.prog 71 #[.int .i64 n, .int .i64 10] w fun e w' => e = .returned (.string ⟨(Lib.itoa n).toArray⟩) ∧ Mem w w' [] := by
  refine (Tryd.strconv_FormatInt_10 n h0 h1 w ht).mono ?_
  rintro e w' ⟨rfl, k, os, rfl⟩
  exact ⟨rfl, Mem.of_below (Lib.below_grow _ w (Nat.le_refl _) k os)⟩
section
variable {P : Program} {ops : Array Oper} {Q : Exit → Act → World → Prop} {rest : List Oper} {a : Act} {w : World} {o : Oper}
/-- Two texts put together. -/
theorem ev_cat (T : TypeId) (x y : Operand) (ty : TypeId) (ho : o.op = .binOp .add T x y ty) (hgd : o.guard = none) (l m : List UInt8) (hu : P.underlying T = some .string) (hx : a.eval x = .string ⟨l.toArray⟩) (hy : a.eval y = .string ⟨m.toArray⟩) (hl : l.length + m.length ≤ 9223372036854775807)
    (h : wpList P ops Q rest (a.put o.dst (.string ⟨(l ++ m).toArray⟩)) w) : wpList P ops Q (o :: rest) a w := by
  refine wpList_plain hgd fun K hK => ?_
  unfold Oper.wp execOp
  have h9 : ¬ (9223372036854775807 < l.length + m.length) := by omega
  have e : (⟨l.toArray⟩ : ByteArray) ++ ⟨m.toArray⟩ = ⟨(l ++ m).toArray⟩ := by apply ByteArray.ext; simp
  have hs : (⟨l.toArray⟩ : ByteArray).size + (⟨m.toArray⟩ : ByteArray).size ≤ 9223372036854775807 := by simp [ByteArray.size]; omega
  have hr : (binOp .add T (.string ⟨l.toArray⟩) (.string ⟨m.toArray⟩)).run P w = .ok (.string ⟨(l ++ m).toArray⟩) w := by
    rw [← e]
    simp only [binOp, Sem.run_bind, run_underlying hu, Result.andThen_ok]
    exact run_string_add_sum w _ _ hs
  simp only [ho, hx, hy, eqGuard_add, Sem.run_bind, Sem.run_pure, hr, Result.andThen_ok]
  exact hK _ _ h
end
section
variable {P : Program} {ops : Array Oper} {S : World → Prop} {a : Act} {o : Oper}
theorem yld_cat (T : TypeId) (x y : Operand) (ty : TypeId) (ho : o.op = .binOp .add T x y ty) (hgd : o.guard = none) (l m : List UInt8) (hu : P.underlying T = some .string) (hx : a.eval x = .string ⟨l.toArray⟩) (hy : a.eval y = .string ⟨m.toArray⟩) (hl : l.length + m.length ≤ 9223372036854775807) : YieldsIf P ops S o (.string ⟨(l ++ m).toArray⟩) a :=
  .inl ⟨by simp [Region.wanted, hgd], fun w _ => by
    unfold execOp
    have e : (⟨l.toArray⟩ : ByteArray) ++ ⟨m.toArray⟩ = ⟨(l ++ m).toArray⟩ := by apply ByteArray.ext; simp
    have hs : (⟨l.toArray⟩ : ByteArray).size + (⟨m.toArray⟩ : ByteArray).size ≤ 9223372036854775807 := by simp [ByteArray.size]; omega
    have hr : (binOp .add T (.string ⟨l.toArray⟩) (.string ⟨m.toArray⟩)).run P w = .ok (.string ⟨(l ++ m).toArray⟩) w := by
      rw [← e]
      simp only [binOp, Sem.run_bind, run_underlying hu, Result.andThen_ok]
      exact run_string_add_sum w _ _ hs
    simp only [ho, hx, hy, eqGuard_add, Sem.run_bind, Sem.run_pure, hr, Result.andThen_ok]⟩
end
theorem flat_cellsV {vs : List Value} (h : ∀ v ∈ vs, v.cells = #[v]) : vs.flatMap (fun v => v.cells.toList) = vs := by
  induction vs with
  | nil => rfl
  | cons x r ih => rw [List.flatMap_cons, ih fun v hv => h v (List.mem_cons_of_mem _ hv), h x (by simp)]; rfl
section
variable {P : Program} {ops : Array Oper} {rest : List Oper} {o : Oper} {a : Act} {w0 w : World} {Q : Exit → Act → World → Prop} {L : List Ent}
/-- []T{x, y, ..}, elements of one cell. -/
theorem Mem.ev_bsV (M : Mem w0 w L) {T e : TypeId} {zv : Value} {bytes : Nat} (E : ElemOk P T e zv 1 bytes) (hgd : o.guard = none) (n : Nat) (parts : Array (Nat × Operand)) (ho : o.op = .buildSlice T n parts)
    (vs : List Value) (hv : ∀ v ∈ vs, v.cells = #[v]) (hn : vs.length = n) (hn0 : 0 < n) (hn2 : n ≤ 2 ^ 24) (hx : (parts.map fun (i, x) => (i, a.eval x)).toList = (vs.zipIdx 0).map fun x => (x.2, x.1))
    (h : ∀ g w1, Mem w0 w1 (L ++ [.blk g e vs.toArray]) → wpList P ops Q rest (a.put o.dst (.slice (some ⟨g, 0, none⟩) n n)) w1) : wpList P ops Q (o :: rest) a w := by
  obtain ⟨i, hi, h1, h2, h3⟩ := E.get
  refine wpList_buildSlice hgd T e n _ ho vs.toArray i zv E.sl hi h1 (by rw [h2]; omega) (by rw [h2]; omega) ?_ ?_
  · rw [hx, h2]
    have hz : zv.cells.size = 1 := E.zs
    have := Great.fill_whole (s := 1) (by omega) vs ((Array.range (n * 1)).map (zv.cells[· % zv.cells.size]!)) (fun v hv' => by rw [hv v hv']; rfl) (by simp [hn])
    rw [this, flat_cellsV hv]
  · exact h _ _ (M.new (Nat.le_refl _) (Blk.new w e _) ((Below.refl _ _).alloc (Nat.le_refl _) _))
end
end Go.Proofs.YtifacledmmpnkaaDoor
