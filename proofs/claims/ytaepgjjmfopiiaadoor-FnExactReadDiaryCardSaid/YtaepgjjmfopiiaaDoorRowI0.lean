/- Rows of whole numbers. -/
import Derived.Test.YtaepgjjmfopiiaaDoorMark64
namespace Go.Proofs.YtaepgjjmfopiiaaDoor
set_option linter.unusedSimpArgs false
set_option linter.unusedVariables false
open Go.RowKit
attribute [local go_sem] cell?_mk frozen?_mk

def oneI (x : Int) : List Value := [.int .i64 x]
theorem oneI_len (x : Int) : (oneI x).length = 1 := rfl
theorem flat_oneI (xs : List Int) : flat oneI xs = xs.map (Value.int .i64) := by
  induction xs with
  | nil => rfl
  | cons k r ih => show oneI k ++ flat oneI r = _; rw [ih]; rfl
theorem oneI_ones (x : Int) : ∀ v ∈ oneI x, v.oneCell' = true := by
  intro v hv
  rw [List.mem_singleton.1 hv]
  rfl
theorem sl_ints {w : World} {g : Nat} {t : TypeId} {xs : List Int} (h : Blk w g t (ints .i64 xs)) : Sl w 1 (some ⟨g, 0, none⟩) xs.length (flat oneI xs) := by
  rw [flat_oneI]
  refine ⟨by simp, fun _ => ⟨g, 0, rfl, fun j v hj => ?_⟩⟩
  rw [Nat.zero_add]
  exact h.cellv (by rw [ints, List.getElem?_toArray]; exact hj)
theorem flat_cells (xs : List Int) : (xs.map (Value.int .i64)).flatMap (fun v => v.cells.toList) = xs.map (Value.int .i64) := by
  induction xs with
  | nil => rfl
  | cons x r ih => rw [List.map_cons, List.flatMap_cons, ih]; rfl
section
variable {P : Program} {ops : Array Oper} {rest : List Oper} {o : Oper} {a : Act} {w0 w : World} {Q : Exit → Act → World → Prop} {L : List Ent}
/-- []int64{x, y, ..}. -/
theorem Mem.ev_bsI (M : Mem w0 w L) {T e : TypeId} {zv : Value} {bytes : Nat} (E : ElemOk P T e zv 1 bytes) (hgd : o.guard = none) (n : Nat) (parts : Array (Nat × Operand)) (ho : o.op = .buildSlice T n parts)
    (xs : List Int) (hn : xs.length = n) (hn0 : 0 < n) (hn2 : n ≤ 2 ^ 24) (hx : (parts.map fun (i, x) => (i, a.eval x)).toList = ((xs.map (Value.int .i64)).zipIdx 0).map fun x => (x.2, x.1))
    (h : ∀ g w1, Mem w0 w1 (L ++ [.blk g e (ints .i64 xs)]) → wpList P ops Q rest (a.put o.dst (.slice (some ⟨g, 0, none⟩) n n)) w1) : wpList P ops Q (o :: rest) a w := by
  obtain ⟨i, hi, h1, h2, h3⟩ := E.get
  refine wpList_buildSlice hgd T e n _ ho (ints .i64 xs) i zv E.sl hi h1 (by rw [h2]; omega) (by rw [h2]; omega) ?_ ?_
  · rw [hx, h2]
    have hz : zv.cells.size = 1 := E.zs
    have := Great.fill_whole (s := 1) (by omega) (xs.map (Value.int .i64)) ((Array.range (n * 1)).map (zv.cells[· % zv.cells.size]!)) (by simp [Value.cells]) (by simp [hn])
    rw [this]
    rw [flat_cells, ints]
  · exact h _ _ (M.new (Nat.le_refl _) (Blk.new w e _) ((Below.refl _ _).alloc (Nat.le_refl _) _))
end
end Go.Proofs.YtaepgjjmfopiiaaDoor
