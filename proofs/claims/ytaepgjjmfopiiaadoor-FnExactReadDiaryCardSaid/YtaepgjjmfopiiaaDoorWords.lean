/- Words on memory: a block that is known whole; a slice that reads as a list. No program. -/
import Derived.WalkKit
import Derived.Below
import Derived.Laws.OwnMore
import Derived.Deep.AppendLies
import Derived.Deep.Draws
import Derived.Laws.Rows
import Derived.Maps.AppendAt
import Derived.RegionTactic
import Derived.OwnWalk
import Derived.Deep.QuietTactic
import Derived.BigQuiet
import Derived.KernelRfl
import Derived.Lib.Hide
import Derived.Outline
import Derived.Deep.LoopGhost
import Derived.Deep.MidRow
import Derived.Deep.RegionHeld3
import Derived.StillTailTactics
import Derived.Deep.DeepMust
namespace Go.Proofs.YtaepgjjmfopiiaaDoor
set_option linter.unusedSimpArgs false
set_option linter.unusedVariables false
open Go.RowKit

theorem ret_bool {a b : Bool} (h : a = b) : Ending.returned (.bool a) = .returned (.bool b) := by rw [h]
theorem ret_int {k : IntKind} {a b : Int} (h : a = b) : Ending.returned (.int k a) = .returned (.int k b) := by rw [h]

/-- Block g is just these cells, none frozen. -/
def Blk (w : World) (g : Nat) (t : TypeId) (cs : Array Value) : Prop := w.heap[g]? = some (.cells cs t (0, 0))

section
variable {w w' : World} {g : Nat} {t : TypeId} {cs : Array Value}
theorem Blk.lt (h : Blk w g t cs) : g < w.heap.size := by
  rcases Nat.lt_or_ge g w.heap.size with hlt | hge
  · exact hlt
  · unfold Blk at h; rw [Array.getElem?_eq_none hge] at h; cases h
theorem Blk.cell (h : Blk w g t cs) (i : Nat) : w.cell? ⟨g, i, none⟩ = cs[i]? := cell_of_row w g i cs t (0, 0) h
theorem Blk.cellv (h : Blk w g t cs) {i : Nat} {v : Value} (hv : cs[i]? = some v) : w.cell? ⟨g, i, none⟩ = some v := (h.cell i).trans hv
theorem Blk.frozen (h : Blk w g t cs) (i : Nat) : w.frozen? ⟨g, i, none⟩ = false := by
  unfold Blk at h
  simp [World.frozen?, h]
theorem Blk.new (w : World) (t : TypeId) (cs : Array Value) : Blk (w.alloc (.cells cs t)) w.heap.size t cs := heap_alloc_new w _
theorem Blk.new' {n : Nat} (hn : n = w.heap.size) : Blk (w.alloc (.cells cs t)) n t cs := by subst hn; exact heap_alloc_new w _
theorem Blk.drew (h : Blk w g t cs) : Blk w.drew g t cs := h
theorem Blk.drewN (h : Blk w g t cs) (n : Nat) : Blk (w.drewN n) g t cs := h
theorem Blk.alloc (h : Blk w g t cs) (o : Obj) : Blk (w.alloc o) g t cs := (Below.heap_alloc w o g h.lt).trans h
theorem Blk.set_ (h : Blk w g t cs) (i : Nat) (u : Value) : Blk (w.setCell ⟨g, i, none⟩ u) g t (cs.setIfInBounds i u) := by
  unfold Blk at h ⊢
  simp [World.setCell, Array.getElem?_modify, h]
theorem Blk.far (h : Blk w g t cs) {p : Addr} (hp : g ≠ p.block) (u : Value) : Blk (w.setCell p u) g t cs := (Below.heap_setCell w p u g hp).trans h
theorem Blk.below {B : Nat} (h : Blk w g t cs) (hb : Below B w w') (hg : g < B) : Blk w' g t cs := (hb.block g hg).trans h
theorem Blk.kept (h : Blk w g t cs) (hb : Below w.heap.size w w') : Blk w' g t cs := h.below hb h.lt
theorem Blk.grown {row : Option Nat} (h : Blk w g t cs) (hb : w.grownBy w' row) (hg : some g ≠ row) : Blk w' g t cs := (hb.block g h.lt hg).trans h
theorem Blk.setRow_far (h : Blk w g t cs) {g' : Nat} (hp : g ≠ g') (cs' : Array Value) : Blk (w.setRow g' cs') g t cs := by
  unfold Blk at h ⊢
  rw [setRow_other w g' g cs' hp, h]
end

/-- Only block g has been written to. -/
structure Upd (w w1 : World) (g : Nat) : Prop where
  os : w1.os = w.os
  tape : w1.tape = w.tape
  output : w1.output = w.output
  size : w1.heap.size = w.heap.size
  block : ∀ k, k ≠ g → w1.heap[k]? = w.heap[k]?

section
variable {w0 w w1 w2 : World} {g k : Nat} {t : TypeId} {cs : Array Value}
theorem Upd.setCell (w : World) (g i : Nat) (v : Value) : Upd w (w.setCell ⟨g, i, none⟩ v) g :=
  ⟨rfl, rfl, rfl, by simp [World.setCell], fun k hk => heap_setCell_other w ⟨g, i, none⟩ k v hk⟩
theorem Upd.trans (h : Upd w w1 g) (h' : Upd w1 w2 g) : Upd w w2 g :=
  ⟨h'.os.trans h.os, h'.tape.trans h.tape, h'.output.trans h.output, h'.size.trans h.size, fun k hk => (h'.block k hk).trans (h.block k hk)⟩
theorem Upd.refl (w : World) (g : Nat) : Upd w w g := ⟨rfl, rfl, rfl, rfl, fun _ _ => rfl⟩
theorem Blk.upd (h : Blk w k t cs) (hu : Upd w w1 g) (hk : k ≠ g) : Blk w1 k t cs := (hu.block k hk).trans h
theorem below_upd {B : Nat} (h : Below B w0 w) (hu : Upd w w1 g) (hB : B ≤ g) : Below B w0 w1 :=
  ⟨hu.os.trans h.os, hu.tape.trans h.tape, hu.output.trans h.output, by rw [hu.size]; exact h.size, fun i hi => (hu.block i (by omega)).trans (h.block i hi)⟩
theorem Blk.ne_new (h : Blk w k t cs) (hg : w.heap.size ≤ g) : k ≠ g := by have := h.lt; omega
end

theorem take_set_drop {α : Type} (xs ys : List α) (k : Nat) (x : α) (hx : xs[k]? = some x) (hk : k < ys.length) :
    (xs.take k ++ ys.drop k).set k x = xs.take (k + 1) ++ ys.drop (k + 1) := by
  have hkx : k < xs.length := (List.getElem?_eq_some_iff.1 hx).1
  have hl : (xs.take k).length = k := by simp; omega
  rw [List.set_append, if_neg (by omega), hl, Nat.sub_self, List.drop_eq_getElem_cons hk, List.set_cons_zero, List.take_add_one, hx]
  simp

/-- An array of whole numbers as it lies in memory. -/
def ints (k : IntKind) (xs : List Int) : Array Value := (xs.map (Value.int k)).toArray
theorem ints_size (k : IntKind) (xs : List Int) : (ints k xs).size = xs.length := by simp [ints]
/-- The number at a place; 0 behind the end. -/
def gi (xs : List Int) (i : Nat) : Int := xs.getD i 0
theorem ints_at {k : IntKind} {xs : List Int} {i : Nat} (h : i < xs.length) : (ints k xs)[i]? = some (.int k (gi xs i)) := by
  simp [ints, gi, h]
theorem ints_set (k : IntKind) (xs : List Int) (i : Nat) (x : Int) : (ints k xs).setIfInBounds i (.int k x) = ints k (xs.set i x) := by
  simp [ints, List.map_set]
/-- n zeros, not to be written out. -/
def zs (n : Nat) : List Int := List.replicate n 0
theorem zs_len (n : Nat) : (zs n).length = n := by simp [zs]
theorem getElem?_gi {xs : List Int} {i : Nat} (h : i < xs.length) : xs[i]? = some (gi xs i) := by simp [gi, h]
theorem gi_mem {xs : List Int} {i : Nat} (h : i < xs.length) : gi xs i ∈ xs := List.mem_of_getElem? (getElem?_gi h)
theorem gi_set_self {xs : List Int} {i : Nat} (h : i < xs.length) (x : Int) : gi (xs.set i x) i = x := by simp [gi, h]
theorem gi_set_ne {xs : List Int} {i j : Nat} (h : i ≠ j) (x : Int) : gi (xs.set i x) j = gi xs j := by simp [gi, h]

theorem ints_one (k : IntKind) (xs : List Int) : (ints k xs).all (·.oneCell') = true := by
  simp [ints, Value.oneCell']

section
variable {P : Program} {ops : Array Oper} {rest : List Oper} {o : Oper} {a : Act} {w : World} {Q : Exit → Act → World → Prop}
theorem gate_load {T : TypeId} {x : Operand} (_ho : o.op = .load T x) (h : wpList P ops Q (o :: rest) a w) : wpList P ops Q (o :: rest) a w := h
theorem gate_store {T : TypeId} {x y : Operand} (_ho : o.op = .store T x y) (h : wpList P ops Q (o :: rest) a w) : wpList P ops Q (o :: rest) a w := h
/-- A load of a variable that is a block of its own. -/
theorem ev_load (T : TypeId) (x : Operand) (ho : o.op = .load T x) (hgd : o.guard = none) {g : Nat} {t : TypeId} {cs : Array Value} (hb : Blk w g t cs) {d : TypeDesc}
    (hu : P.underlying T = some d) (hd : (match d with | .struct _ | .array _ _ => true | _ => false) = true) (hi : (P.info? T).map (·.size) = some cs.size)
    (hx : a.eval x = .pointer (some ⟨g, 0, none⟩)) (h : wpList P ops Q rest (a.put o.dst (.agg cs)) w) : wpList P ops Q (o :: rest) a w :=
  wpList_load_row hgd T x ho g hx t cs (0, 0) d hb hu hd hi h
/-- A store of a whole variable that is a block of its own. -/
theorem ev_store (T : TypeId) (x y : Operand) (ho : o.op = .store T x y) (hgd : o.guard = none) {g : Nat} {t : TypeId} {cs : Array Value} (hb : Blk w g t cs) (cs' : Array Value)
    (hl : cs.size = cs'.size) (hi : (P.info? T).map (·.size) = some cs'.size) (h1 : cs'.all (·.oneCell') = true)
    (hx : a.eval x = .pointer (some ⟨g, 0, none⟩)) (hy : a.eval y = .agg cs') (hdst : o.dst = none)
    (h : ∀ w1, Blk w1 g t cs' → Upd w w1 g → wpList P ops Q rest a w1) : wpList P ops Q (o :: rest) a w := by
  refine wpList_store_row hgd T x y ho g cs' hx hy t cs hb hi hl h1 ?_
  rw [hdst]
  exact h _ (setRow_heap w g _ cs' t _ hb) ⟨rfl, rfl, rfl, size_setRow w g cs', fun k hk => setRow_other w g k cs' hk⟩
end

/-- The end of a function whose one result is a variable that is a block of its own. -/
theorem ret_cell {P : Program} {fn : Func} {R : Ending → World → Prop} {tmps : Array Value} {w : World} {p : Tmp} {ty : TypeId} (hr : fn.results = #[.cell p ty]) {g : Nat} {t : TypeId} {cs : Array Value}
    (hb : Blk w g t cs) {d : TypeDesc} (hu : P.underlying ty = some d) (hd : (match d with | .struct _ | .array _ _ => true | _ => false) = true) (hi : (P.info? ty).map (·.size) = some cs.size)
    (hp : tmps.getD p undef = .pointer (some ⟨g, 0, none⟩)) (h : R (.returned (.agg cs)) w) : bodyPost P fn R .ret { tmps := tmps, defers := [] } w :=
  bodyPost_ret (results_cell_row hr tmps w g t cs (0, 0) d hp hb hu hd hi) rfl h

/-- Some cells in the midst of an array, exchanged. -/
def spl (cs : Array Value) (o : Nat) (vs : List Value) : Array Value := (cs.toList.take o ++ vs ++ cs.toList.drop (o + vs.length)).toArray
theorem spl_nil (cs : Array Value) (o : Nat) : spl cs o [] = cs := by simp [spl]
theorem spl_cons (cs : Array Value) (o : Nat) (v : Value) (vs : List Value) (h : o < cs.size) : spl (cs.setIfInBounds o v) (o + 1) vs = spl cs o (v :: vs) := by
  unfold spl
  congr 1
  simp only [Array.toList_setIfInBounds, List.length_cons]
  rw [List.take_succ_eq_append_getElem (by simpa using h), List.getElem_set_self, List.take_set_of_le (by omega), List.drop_set_of_lt (by omega)]
  simp [Nat.add_assoc, Nat.add_comm 1]
theorem setCells_blk {g : Nat} {t : TypeId} : ∀ (vs : List Value) (o : Nat) (w : World) (cs : Array Value), Blk w g t cs → o + vs.length ≤ cs.size → Blk (w.setCells g o vs) g t (spl cs o vs) ∧ Upd w (w.setCells g o vs) g
  | [], o, w, cs, h, _ => by
    rw [spl_nil]; exact ⟨h, Upd.refl w g⟩
  | v :: vs, o, w, cs, h, hl => by
    simp only [List.length_cons] at hl
    have ih := setCells_blk vs (o + 1) (w.setCell ⟨g, o, none⟩ v) (cs.setIfInBounds o v) (h.set_ o v) (by simp; omega)
    rw [spl_cons _ _ _ _ (by omega)] at ih
    exact ⟨ih.1, (Upd.setCell w g o v).trans ih.2⟩
theorem blk_range {w : World} {g : Nat} {t : TypeId} {cs : Array Value} (h : Blk w g t cs) (o : Nat) (vs : List Value) (hv : ∀ j v, vs[j]? = some v → cs[o + j]? = some v) : w.rangeAt g o vs :=
  fun j v hj => h.cellv (hv j v hj)
theorem blk_there {w : World} {g : Nat} {t : TypeId} {cs : Array Value} (h : Blk w g t cs) (o n : Nat) (hn : o + n ≤ cs.size) : w.there g o n :=
  fun j hj => ⟨by rw [h.cell]; simp; omega, h.frozen _⟩

section
variable {P : Program} {ops : Array Oper} {rest : List Oper} {o : Oper} {a : Act} {w : World} {Q : Exit → Act → World → Prop}
/-- A load of a part of a block. -/
theorem ev_load_mid (T : TypeId) (x : Operand) (ho : o.op = .load T x) (hgd : o.guard = none) {g : Nat} {t : TypeId} {cs : Array Value} (hb : Blk w g t cs) (off : Nat) (vs : List Value)
    (hv : ∀ j v, vs[j]? = some v → cs[off + j]? = some v) {d : TypeDesc} (hu : P.underlying T = some d) (hd : d.isRow = true) (hi : (P.info? T).map (·.size) = some vs.length)
    (hx : a.eval x = .pointer (some ⟨g, off, none⟩)) (h : wpList P ops Q rest (a.put o.dst (.agg vs.toArray)) w) : wpList P ops Q (o :: rest) a w :=
  wpList_load_mid hgd T x ho g off hx vs d (blk_range hb off vs hv) hu hd hi h
/-- A store into a part of a block. -/
theorem ev_store_mid (T : TypeId) (x y : Operand) (ho : o.op = .store T x y) (hgd : o.guard = none) {g : Nat} {t : TypeId} {cs : Array Value} (hb : Blk w g t cs) (off : Nat) (vs : List Value)
    (hl : off + vs.length ≤ cs.size) (hi : (P.info? T).map (·.size) = some vs.length) (h1 : vs.toArray.all (·.oneCell') = true)
    (hx : a.eval x = .pointer (some ⟨g, off, none⟩)) (hy : a.eval y = .agg vs.toArray) (hdst : o.dst = none)
    (h : ∀ w1, Blk w1 g t (spl cs off vs) → Upd w w1 g → wpList P ops Q rest a w1) : wpList P ops Q (o :: rest) a w := by
  refine wpList_store_mid hgd T x y ho g off vs.toArray hx hy (by simpa using blk_there hb off vs.length hl) (by simpa using hi) h1 ?_
  rw [hdst]
  obtain ⟨h2, h3⟩ := setCells_blk vs off w cs hb hl
  exact h _ h2 h3
/-- A new variable. -/
theorem ev_new (hgd : o.guard = none) {cs : Array Value} {t : TypeId}
    (hrun : (execOp a.eval o).run P w = .ok (.value (.pointer (some ⟨w.heap.size, 0, none⟩))) (w.alloc (.cells cs t (0, 0))))
    (h : ∀ g w1, w.heap.size ≤ g → Blk w1 g t cs → Below w.heap.size w w1 → wpList P ops Q rest (a.put o.dst (.pointer (some ⟨g, 0, none⟩))) w1) : wpList P ops Q (o :: rest) a w := by
  refine wpList_plain hgd fun K hK => ?_
  unfold Oper.wp
  rw [hrun]
  exact hK _ _ (h _ _ (Nat.le_refl _) (Blk.new w t cs) ((Below.refl _ _).alloc (Nat.le_refl _) _))
theorem gate_dst {N : Tmp} (_hN : o.dst = some N) (h : wpList P ops Q (o :: rest) a w) : wpList P ops Q (o :: rest) a w := h
theorem gate_box {T : TypeId} {x : Operand} (_ho : o.op = .box T x) (h : wpList P ops Q (o :: rest) a w) : wpList P ops Q (o :: rest) a w := h
theorem gate_alloc {T : TypeId} (_ho : o.op = .alloc T) (h : wpList P ops Q (o :: rest) a w) : wpList P ops Q (o :: rest) a w := h
end
theorem below_then {w w1 w2 : World} (h : Below w.heap.size w w1) (k : Below w1.heap.size w1 w2) : Below w.heap.size w w2 := h.trans (k.mono h.size)

section
variable {P : Program} {ops : Array Oper} {rest : List Oper} {o : Oper} {a : Act} {w : World} {Q : Exit → Act → World → Prop}
/-- A store of one cell. -/
theorem ev_set (hgd : o.guard = none) (hdst : o.dst = none) {g i : Nat} {t : TypeId} {cs : Array Value} {v : Value} (hb : Blk w g t cs)
    (hrun : (execOp a.eval o).run P w = .ok .skip (w.setCell ⟨g, i, none⟩ v))
    (h : ∀ w1, Blk w1 g t (cs.setIfInBounds i v) → Upd w w1 g → wpList P ops Q rest a w1) : wpList P ops Q (o :: rest) a w := by
  refine wpList_plain hgd fun K hK => ?_
  unfold Oper.wp
  rw [hrun]
  show K (a.put o.dst undef) _
  rw [hdst]
  exact hK _ _ (h _ (hb.set_ i v) (Upd.setCell w g i v))
end
theorem cell_kept {w w1 : World} (hB : Below w.heap.size w w1) {a : Addr} {v : Value} (h : w.cell? a = some v) : w1.cell? a = some v := (hB.cell (World.block_lt_of_cell? w a h)).trans h
theorem cell?_mk (w : World) (t : Nat → Question → Nat) (d : Nat) (o : Os) (out : Array (Nat × ByteArray)) (a : Addr) :
    ({ heap := w.heap, tape := t, drawn := d, os := o, output := out } : World).cell? a = w.cell? a := rfl
theorem frozen?_mk (w : World) (t : Nat → Question → Nat) (d : Nat) (o : Os) (out : Array (Nat × ByteArray)) (a : Addr) :
    ({ heap := w.heap, tape := t, drawn := d, os := o, output := out } : World).frozen? a = w.frozen? a := rfl
end Go.Proofs.YtaepgjjmfopiiaaDoor
