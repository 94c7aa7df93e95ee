/- Texts of a proof, laid together: Ty, Words, Mem, Ev, Sl, Pure. -/
import Derived.Test.YtkomhngokcejbaaGreatDoorProg
import Derived.KernelRfl
import Derived.WalkKit
import Derived.Below
import Derived.Laws.OwnMore
import Derived.Deep.AppendLies
import Derived.Deep.Draws
import Derived.Laws.Rows
import Derived.Maps.AppendAt
import Derived.RegionTactic
import Derived.OwnWalk
import Derived.Deep.QuietTactic
import Derived.BigQuiet
import Derived.Lib.Hide
import Derived.Outline
import Derived.Deep.LoopGhost
import Derived.Deep.MidRow
import Derived.Deep.RegionHeld3
import Derived.StillTailTactics
import Derived.Deep.DeepMust
namespace Go.Proofs.YtkomhngokcejbaaGreatDoor
set_option linter.unusedSimpArgs false
set_option linter.unusedVariables false
theorem sz2 : (Tryz.prog.info? 2).map (·.size) = some 1 := by kernel_rfl
theorem sz3 : (Tryz.prog.info? 3).map (·.size) = some 1 := by kernel_rfl
theorem sz5 : (Tryz.prog.info? 5).map (·.size) = some 1 := by kernel_rfl
theorem sz24 : (Tryz.prog.info? 24).map (·.size) = some 1 := by kernel_rfl
theorem sz26 : (Tryz.prog.info? 26).map (·.size) = some 1 := by kernel_rfl
theorem sz29 : (Tryz.prog.info? 29).map (·.size) = some 202 := by kernel_rfl
theorem sz31 : (Tryz.prog.info? 31).map (·.size) = some 100 := by kernel_rfl
theorem sz38 : (Tryz.prog.info? 38).map (·.size) = some 1 := by kernel_rfl
theorem sz40 : (Tryz.prog.info? 40).map (·.size) = some 2 := by kernel_rfl
theorem sz48 : (Tryz.prog.info? 48).map (·.size) = some 6 := by kernel_rfl
theorem sz94 : (Tryz.prog.info? 94).map (·.size) = some 6 := by kernel_rfl
theorem sz192 : (Tryz.prog.info? 192).map (·.size) = some 1 := by kernel_rfl
theorem sz196 : (Tryz.prog.info? 196).map (·.size) = some 3 := by kernel_rfl
end Go.Proofs.YtkomhngokcejbaaGreatDoor
namespace Go.Proofs.YtkomhngokcejbaaGreatDoor
set_option linter.unusedSimpArgs false
set_option linter.unusedVariables false
open Go.RowKit

theorem ret_bool {a b : Bool} (h : a = b) : Ending.returned (.bool a) = .returned (.bool b) := by rw [h]
theorem ret_int {k : IntKind} {a b : Int} (h : a = b) : Ending.returned (.int k a) = .returned (.int k b) := by rw [h]

/-- Block g is just these cells, none frozen. -/
def Blk (w : World) (g : Nat) (t : TypeId) (cs : Array Value) : Prop := w.heap[g]? = some (.cells cs t (0, 0))

section
variable {w w' : World} {g : Nat} {t : TypeId} {cs : Array Value}
theorem Blk.lt (h : Blk w g t cs) : g < w.heap.size := by
  rcases Nat.lt_or_ge g w.heap.size with hlt | hge
  · exact hlt
  · unfold Blk at h; rw [Array.getElem?_eq_none hge] at h; cases h
theorem Blk.cell (h : Blk w g t cs) (i : Nat) : w.cell? ⟨g, i, none⟩ = cs[i]? := cell_of_row w g i cs t (0, 0) h
theorem Blk.cellv (h : Blk w g t cs) {i : Nat} {v : Value} (hv : cs[i]? = some v) : w.cell? ⟨g, i, none⟩ = some v := (h.cell i).trans hv
theorem Blk.frozen (h : Blk w g t cs) (i : Nat) : w.frozen? ⟨g, i, none⟩ = false := by
  unfold Blk at h
  simp [World.frozen?, h]
theorem Blk.new (w : World) (t : TypeId) (cs : Array Value) : Blk (w.alloc (.cells cs t)) w.heap.size t cs := heap_alloc_new w _
theorem Blk.drew (h : Blk w g t cs) : Blk w.drew g t cs := h
theorem Blk.drewN (h : Blk w g t cs) (n : Nat) : Blk (w.drewN n) g t cs := h
theorem Blk.alloc (h : Blk w g t cs) (o : Obj) : Blk (w.alloc o) g t cs := (Below.heap_alloc w o g h.lt).trans h
theorem Blk.set_ (h : Blk w g t cs) (i : Nat) (u : Value) : Blk (w.setCell ⟨g, i, none⟩ u) g t (cs.setIfInBounds i u) := by
  unfold Blk at h ⊢
  simp [World.setCell, Array.getElem?_modify, h]
theorem Blk.far (h : Blk w g t cs) {p : Addr} (hp : g ≠ p.block) (u : Value) : Blk (w.setCell p u) g t cs := (Below.heap_setCell w p u g hp).trans h
theorem Blk.below {B : Nat} (h : Blk w g t cs) (hb : Below B w w') (hg : g < B) : Blk w' g t cs := (hb.block g hg).trans h
theorem Blk.kept (h : Blk w g t cs) (hb : Below w.heap.size w w') : Blk w' g t cs := h.below hb h.lt
theorem Blk.grown {row : Option Nat} (h : Blk w g t cs) (hb : w.grownBy w' row) (hg : some g ≠ row) : Blk w' g t cs := (hb.block g h.lt hg).trans h
end

/-- Only block g has been written to. -/
structure Upd (w w1 : World) (g : Nat) : Prop where
  os : w1.os = w.os
  tape : w1.tape = w.tape
  output : w1.output = w.output
  size : w1.heap.size = w.heap.size
  block : ∀ k, k ≠ g → w1.heap[k]? = w.heap[k]?

section
variable {w0 w w1 w2 : World} {g k : Nat} {t : TypeId} {cs : Array Value}
theorem Upd.setCell (w : World) (g i : Nat) (v : Value) : Upd w (w.setCell ⟨g, i, none⟩ v) g :=
  ⟨rfl, rfl, rfl, by simp [World.setCell], fun k hk => heap_setCell_other w ⟨g, i, none⟩ k v hk⟩
theorem Upd.trans (h : Upd w w1 g) (h' : Upd w1 w2 g) : Upd w w2 g :=
  ⟨h'.os.trans h.os, h'.tape.trans h.tape, h'.output.trans h.output, h'.size.trans h.size, fun k hk => (h'.block k hk).trans (h.block k hk)⟩
theorem Upd.refl (w : World) (g : Nat) : Upd w w g := ⟨rfl, rfl, rfl, rfl, fun _ _ => rfl⟩
theorem Blk.upd (h : Blk w k t cs) (hu : Upd w w1 g) (hk : k ≠ g) : Blk w1 k t cs := (hu.block k hk).trans h
theorem below_upd {B : Nat} (h : Below B w0 w) (hu : Upd w w1 g) (hB : B ≤ g) : Below B w0 w1 :=
  ⟨hu.os.trans h.os, hu.tape.trans h.tape, hu.output.trans h.output, by rw [hu.size]; exact h.size, fun i hi => (hu.block i (by omega)).trans (h.block i hi)⟩
end

/-- An array of whole numbers as it lies in memory. -/
def ints (k : IntKind) (xs : List Int) : Array Value := (xs.map (Value.int k)).toArray
theorem ints_size (k : IntKind) (xs : List Int) : (ints k xs).size = xs.length := by simp [ints]
/-- The number at a place; 0 behind the end. -/
def gi (xs : List Int) (i : Nat) : Int := xs.getD i 0
theorem ints_at {k : IntKind} {xs : List Int} {i : Nat} (h : i < xs.length) : (ints k xs)[i]? = some (.int k (gi xs i)) := by
  simp [ints, gi, h]
theorem ints_set (k : IntKind) (xs : List Int) (i : Nat) (x : Int) : (ints k xs).setIfInBounds i (.int k x) = ints k (xs.set i x) := by
  simp [ints, List.map_set]
/-- n zeros, not to be written out. -/
def zs (n : Nat) : List Int := List.replicate n 0
theorem zs_len (n : Nat) : (zs n).length = n := by simp [zs]
theorem getElem?_gi {xs : List Int} {i : Nat} (h : i < xs.length) : xs[i]? = some (gi xs i) := by simp [gi, h]
theorem gi_set_self {xs : List Int} {i : Nat} (h : i < xs.length) (x : Int) : gi (xs.set i x) i = x := by simp [gi, h]
theorem gi_set_ne {xs : List Int} {i j : Nat} (h : i ≠ j) (x : Int) : gi (xs.set i x) j = gi xs j := by simp [gi, h]

theorem ints_one (k : IntKind) (xs : List Int) : (ints k xs).all (·.oneCell') = true := by
  simp [ints, Value.oneCell']

section
variable {P : Program} {ops : Array Oper} {rest : List Oper} {o : Oper} {a : Act} {w : World} {Q : Exit → Act → World → Prop}
theorem gate_store {T : TypeId} {x y : Operand} (_ho : o.op = .store T x y) (h : wpList P ops Q (o :: rest) a w) : wpList P ops Q (o :: rest) a w := h
/-- A load of a variable that is a block of its own. -/
theorem ev_load (T : TypeId) (x : Operand) (ho : o.op = .load T x) (hgd : o.guard = none) {g : Nat} {t : TypeId} {cs : Array Value} (hb : Blk w g t cs) {d : TypeDesc}
    (hu : P.underlying T = some d) (hd : (match d with | .struct _ | .array _ _ => true | _ => false) = true) (hi : (P.info? T).map (·.size) = some cs.size)
    (hx : a.eval x = .pointer (some ⟨g, 0, none⟩)) (h : wpList P ops Q rest (a.put o.dst (.agg cs)) w) : wpList P ops Q (o :: rest) a w :=
  wpList_load_row hgd T x ho g hx t cs (0, 0) d hb hu hd hi h
/-- A store of a whole variable that is a block of its own. -/
theorem ev_store (T : TypeId) (x y : Operand) (ho : o.op = .store T x y) (hgd : o.guard = none) {g : Nat} {t : TypeId} {cs : Array Value} (hb : Blk w g t cs) (cs' : Array Value)
    (hl : cs.size = cs'.size) (hi : (P.info? T).map (·.size) = some cs'.size) (h1 : cs'.all (·.oneCell') = true)
    (hx : a.eval x = .pointer (some ⟨g, 0, none⟩)) (hy : a.eval y = .agg cs') (hdst : o.dst = none)
    (h : ∀ w1, Blk w1 g t cs' → Upd w w1 g → wpList P ops Q rest a w1) : wpList P ops Q (o :: rest) a w := by
  refine wpList_store_row hgd T x y ho g cs' hx hy t cs hb hi hl h1 ?_
  rw [hdst]
  exact h _ (setRow_heap w g _ cs' t _ hb) ⟨rfl, rfl, rfl, size_setRow w g cs', fun k hk => setRow_other w g k cs' hk⟩
end

/-- The end of a function whose one result is a variable that is a block of its own. -/
theorem ret_cell {P : Program} {fn : Func} {R : Ending → World → Prop} {tmps : Array Value} {w : World} {p : Tmp} {ty : TypeId} (hr : fn.results = #[.cell p ty]) {g : Nat} {t : TypeId} {cs : Array Value}
    (hb : Blk w g t cs) {d : TypeDesc} (hu : P.underlying ty = some d) (hd : (match d with | .struct _ | .array _ _ => true | _ => false) = true) (hi : (P.info? ty).map (·.size) = some cs.size)
    (hp : tmps.getD p undef = .pointer (some ⟨g, 0, none⟩)) (h : R (.returned (.agg cs)) w) : bodyPost P fn R .ret { tmps := tmps, defers := [] } w :=
  bodyPost_ret (results_cell_row hr tmps w g t cs (0, 0) d hp hb hu hd hi) rfl h

/-- Some cells in the midst of an array, exchanged. -/
def spl (cs : Array Value) (o : Nat) (vs : List Value) : Array Value := (cs.toList.take o ++ vs ++ cs.toList.drop (o + vs.length)).toArray
section
variable {P : Program} {ops : Array Oper} {rest : List Oper} {o : Oper} {a : Act} {w : World} {Q : Exit → Act → World → Prop}
/-- A new variable. -/
theorem ev_new (hgd : o.guard = none) {cs : Array Value} {t : TypeId}
    (hrun : (execOp a.eval o).run P w = .ok (.value (.pointer (some ⟨w.heap.size, 0, none⟩))) (w.alloc (.cells cs t (0, 0))))
    (h : ∀ g w1, w.heap.size ≤ g → Blk w1 g t cs → Below w.heap.size w w1 → wpList P ops Q rest (a.put o.dst (.pointer (some ⟨g, 0, none⟩))) w1) : wpList P ops Q (o :: rest) a w := by
  refine wpList_plain hgd fun K hK => ?_
  unfold Oper.wp
  rw [hrun]
  exact hK _ _ (h _ _ (Nat.le_refl _) (Blk.new w t cs) ((Below.refl _ _).alloc (Nat.le_refl _) _))
theorem gate_dst {N : Tmp} (_hN : o.dst = some N) (h : wpList P ops Q (o :: rest) a w) : wpList P ops Q (o :: rest) a w := h
end
theorem below_then {w w1 w2 : World} (h : Below w.heap.size w w1) (k : Below w1.heap.size w1 w2) : Below w.heap.size w w2 := h.trans (k.mono h.size)

section
variable {P : Program} {ops : Array Oper} {rest : List Oper} {o : Oper} {a : Act} {w : World} {Q : Exit → Act → World → Prop}
/-- A store of one cell. -/
theorem ev_set (hgd : o.guard = none) (hdst : o.dst = none) {g i : Nat} {t : TypeId} {cs : Array Value} {v : Value} (hb : Blk w g t cs)
    (hrun : (execOp a.eval o).run P w = .ok .skip (w.setCell ⟨g, i, none⟩ v))
    (h : ∀ w1, Blk w1 g t (cs.setIfInBounds i v) → Upd w w1 g → wpList P ops Q rest a w1) : wpList P ops Q (o :: rest) a w := by
  refine wpList_plain hgd fun K hK => ?_
  unfold Oper.wp
  rw [hrun]
  show K (a.put o.dst undef) _
  rw [hdst]
  exact hK _ _ (h _ (hb.set_ i v) (Upd.setCell w g i v))
end
theorem cell?_mk (w : World) (t : Nat → Question → Nat) (d : Nat) (o : Os) (out : Array (Nat × ByteArray)) (a : Addr) :
    ({ heap := w.heap, tape := t, drawn := d, os := o, output := out } : World).cell? a = w.cell? a := rfl
theorem frozen?_mk (w : World) (t : Nat → Question → Nat) (d : Nat) (o : Os) (out : Array (Nat × ByteArray)) (a : Addr) :
    ({ heap := w.heap, tape := t, drawn := d, os := o, output := out } : World).frozen? a = w.frozen? a := rfl
end Go.Proofs.YtkomhngokcejbaaGreatDoor
namespace Go.Proofs.YtkomhngokcejbaaGreatDoor
set_option linter.unusedSimpArgs false
set_option linter.unusedVariables false
open Go.RowKit

/-- A row of a lot. -/
structure Rw where
  v : Value
  e : TypeId
  sz : Nat
  n : Nat
  cs : List Value
/-- blk: a variable; row: a slice's row; lot: any number of rows that are but read. -/
inductive Ent where
  | blk (g : Nat) (t : TypeId) (cs : Array Value)
  | row (v : Value) (e : TypeId) (sz n : Nat) (cs : List Value)
  | lot (rs : List Rw)

def Ent.holds (base : Nat) (w : World) : Ent → Prop
  | .blk g t cs => base ≤ g ∧ Blk w g t cs
  | .row v e sz n cs => w.ownsRow base e sz v n cs
  | .lot rs => ∀ r ∈ rs, w.ownsRow base r.e r.sz r.v r.n r.cs
def Ent.place : Ent → Nat → Prop
  | .blk g _ _, k => g = k
  | .row v _ _ _ _, k => v.ownBlock = some k
  | .lot rs, k => ∃ r ∈ rs, r.v.ownBlock = some k
def Ent.apart (x y : Ent) : Prop := ∀ k, x.place k → ¬ y.place k

theorem Ent.apart.symm {x y : Ent} (h : x.apart y) : y.apart x := fun k hy hx => h k hx hy
theorem Ent.holds.lt {base : Nat} {w : World} {x : Ent} (h : x.holds base w) {k : Nat} (hk : x.place k) : base ≤ k ∧ k < w.heap.size := by
  cases x with
  | blk g t cs =>
    simp only [Ent.place] at hk
    subst hk
    exact ⟨h.1, h.2.lt⟩
  | row v e sz n cs => exact World.ownsRow.lt h k hk
  | lot rs =>
    obtain ⟨r, hr, he⟩ := hk
    exact World.ownsRow.lt (h r hr) k he
theorem row_keep {base e sz n : Nat} {v : Value} {cs : List Value} {w w' : World} (h : w.ownsRow base e sz v n cs) (hk : ∀ k, v.ownBlock = some k → w'.heap[k]? = w.heap[k]?) : w'.ownsRow base e sz v n cs := by
  refine ⟨h.1, ?_⟩
  rcases h.2 with hn | ⟨g, cap, cur, rfl, hb, hg, rest⟩
  · exact .inl hn
  · exact .inr ⟨g, cap, cur, rfl, hb, (hk g rfl).trans hg, rest⟩
theorem row_lower {base b' e sz n : Nat} {v : Value} {cs : List Value} {w : World} (h : w.ownsRow base e sz v n cs) (hb : b' ≤ base) : w.ownsRow b' e sz v n cs := by
  refine ⟨h.1, ?_⟩
  rcases h.2 with hn | ⟨g, cap, cur, rfl, hg, rest⟩
  · exact .inl hn
  · exact .inr ⟨g, cap, cur, rfl, Nat.le_trans hb hg, rest⟩
theorem Ent.holds.keep {base : Nat} {w w' : World} {x : Ent} (h : x.holds base w) (hk : ∀ k, x.place k → w'.heap[k]? = w.heap[k]?) : x.holds base w' := by
  cases x with
  | blk g t cs => exact ⟨h.1, (hk g rfl).trans h.2⟩
  | row v e sz n cs => exact row_keep h hk
  | lot rs => exact fun r hr => row_keep (h r hr) fun k he => hk k ⟨r, hr, he⟩

structure Mem (w0 w : World) (L : List Ent) : Prop where
  below : Below w0.heap.size w0 w
  all : ∀ (i : Nat) (x : Ent), L[i]? = some x → x.holds w0.heap.size w
  sep : ∀ (i j : Nat) (x y : Ent), i ≠ j → L[i]? = some x → L[j]? = some y → x.apart y

section
variable {w0 w w1 : World} {L : List Ent}
theorem Mem.start (w : World) : Mem w w [] := ⟨Below.refl _ _, fun i x h => by simp at h, fun i j x y _ h => by simp at h⟩
theorem Mem.size (M : Mem w0 w L) : w0.heap.size ≤ w.heap.size := M.below.size
theorem Mem.kept (M : Mem w0 w L) (h : Below w.heap.size w w1) : Mem w0 w1 L :=
  ⟨below_then M.below h, fun i x hx => (M.all i x hx).keep fun _ hk => h.block _ ((M.all i x hx).lt hk).2, M.sep⟩
theorem Mem.drewN (M : Mem w0 w L) (n : Nat) : Mem w0 (w.drewN n) L :=
  M.kept ⟨rfl, rfl, rfl, Nat.le_refl _, fun _ _ => rfl⟩
theorem Mem.drew (M : Mem w0 w L) : Mem w0 w.drew L := M.kept (Below.refl _ _).drew
theorem Mem.take (M : Mem w0 w L) (n : Nat) : Mem w0 w (L.take n) := by
  have key : ∀ (i : Nat) (x : Ent), (L.take n)[i]? = some x → L[i]? = some x := by
    intro i x h
    rw [List.getElem?_take] at h
    split at h
    · exact h
    · cases h
  exact ⟨M.below, fun i x hx => M.all i x (key i x hx), fun i j x y hij hx hy => M.sep i j x y hij (key i x hx) (key j y hy)⟩
/-- Something new. -/
theorem Mem.push (M : Mem w0 w L) (x : Ent) (hB : Below w.heap.size w w1) (hx : x.holds w0.heap.size w1) (hn : ∀ k, x.place k → w.heap.size ≤ k) : Mem w0 w1 (L ++ [x]) := by
  have M1 := M.kept hB
  have key : ∀ (i : Nat) (y : Ent), (L ++ [x])[i]? = some y → (i < L.length ∧ L[i]? = some y) ∨ (i = L.length ∧ y = x) := by
    intro i y h
    rcases Nat.lt_or_ge i L.length with hl | hl
    · rw [List.getElem?_append_left hl] at h; exact .inl ⟨hl, h⟩
    · rw [List.getElem?_append_right hl] at h
      have h0 : i - L.length = 0 := by
        rcases Nat.eq_zero_or_pos (i - L.length) with h0 | h0
        · exact h0
        · obtain ⟨m, hm⟩ : ∃ m, i - L.length = m + 1 := ⟨i - L.length - 1, by omega⟩
          rw [hm] at h; simp at h
      rw [h0] at h
      simp at h
      exact .inr ⟨by omega, h.symm⟩
  have fresh : ∀ (i : Nat) (y : Ent), L[i]? = some y → y.apart x := fun i y hy k hk hk' => by
    have := ((M.all i y hy).lt hk).2
    have := hn k hk'
    omega
  refine ⟨M1.below, fun i y h => ?_, fun i j y z hij hy hz => ?_⟩
  · rcases key i y h with ⟨_, h'⟩ | ⟨_, rfl⟩
    · exact M1.all i y h'
    · exact hx
  · rcases key i y hy with ⟨hi, h1⟩ | ⟨hi, rfl⟩ <;> rcases key j z hz with ⟨hj, h2⟩ | ⟨hj, rfl⟩
    · exact M.sep i j y z hij h1 h2
    · exact fresh i y h1
    · exact (fresh j z h2).symm
    · omega
/-- One thing changed, at its place or at a new one. -/
theorem Mem.change (M : Mem w0 w L) (i : Nat) {x y : Ent} (hi : L[i]? = some x) (hB : Below w0.heap.size w0 w1) (hy : y.holds w0.heap.size w1)
    (hk : ∀ k, k < w.heap.size → ¬ x.place k → w1.heap[k]? = w.heap[k]?) (hp : ∀ k, y.place k → x.place k ∨ w.heap.size ≤ k) : Mem w0 w1 (L.set i y) := by
  have key : ∀ (j : Nat) (z : Ent), (L.set i y)[j]? = some z → (j ≠ i ∧ L[j]? = some z) ∨ (j = i ∧ z = y) := by
    intro j z h
    by_cases hji : j = i
    · subst hji
      have hlt : j < L.length := (List.getElem?_eq_some_iff.1 hi).1
      rw [List.getElem?_set_self hlt] at h
      exact .inr ⟨rfl, by simpa using h.symm⟩
    · rw [List.getElem?_set_ne (Ne.symm hji)] at h
      exact .inl ⟨hji, h⟩
  have hap : ∀ (j : Nat) (z : Ent), j ≠ i → L[j]? = some z → z.apart y := fun j z hji hz k hk1 hk2 => by
    rcases hp k hk2 with h | h
    · exact M.sep j i z x hji hz hi k hk1 h
    · have := ((M.all j z hz).lt hk1).2
      omega
  refine ⟨hB, fun j z h => ?_, fun j l z u hjl hz hu => ?_⟩
  · rcases key j z h with ⟨hji, h'⟩ | ⟨_, rfl⟩
    · exact (M.all j z h').keep fun k hk1 => hk k ((M.all j z h').lt hk1).2 (M.sep j i z x hji h' hi k hk1)
    · exact hy
  · rcases key j z hz with ⟨hj, h1⟩ | ⟨hj, rfl⟩ <;> rcases key l u hu with ⟨hl, h2⟩ | ⟨hl, rfl⟩
    · exact M.sep j l z u hjl h1 h2
    · exact hap j z hj h1
    · exact (hap l u hl h2).symm
    · omega
theorem Mem.new (M : Mem w0 w L) {g : Nat} {t : TypeId} {cs : Array Value} (hg : w.heap.size ≤ g) (hb : Blk w1 g t cs) (hB : Below w.heap.size w w1) : Mem w0 w1 (L ++ [.blk g t cs]) :=
  M.push _ hB ⟨Nat.le_trans M.size hg, hb⟩ (fun k hk => by simp only [Ent.place] at hk; omega)
theorem Mem.blk (M : Mem w0 w L) (i : Nat) {g : Nat} {t : TypeId} {cs : Array Value} (h : L[i]? = some (.blk g t cs)) : Blk w g t cs := (M.all i _ h).2
theorem Mem.base (M : Mem w0 w L) (i : Nat) {g : Nat} {t : TypeId} {cs : Array Value} (h : L[i]? = some (.blk g t cs)) : w0.heap.size ≤ g := (M.all i _ h).1
theorem Mem.cell (M : Mem w0 w L) (i : Nat) {g : Nat} {t : TypeId} {cs : Array Value} (h : L[i]? = some (.blk g t cs)) {j : Nat} {v : Value} (hv : cs[j]? = some v) : w.cell? ⟨g, j, none⟩ = some v := (M.blk i h).cellv hv
theorem Mem.frozen (M : Mem w0 w L) (i : Nat) {g : Nat} {t : TypeId} {cs : Array Value} (h : L[i]? = some (.blk g t cs)) (j : Nat) : w.frozen? ⟨g, j, none⟩ = false := (M.blk i h).frozen j
theorem Mem.upd (M : Mem w0 w L) (i : Nat) {g : Nat} {t : TypeId} {cs cs' : Array Value} (h : L[i]? = some (.blk g t cs)) (hb : Blk w1 g t cs') (hU : Upd w w1 g) : Mem w0 w1 (L.set i (.blk g t cs')) :=
  M.change i h (below_upd M.below hU (M.base i h)) ⟨M.base i h, hb⟩ (fun k _ hne => hU.block k (fun e => hne e.symm)) (fun k hk => .inl hk)
/-- A block that was there before reads as it did. -/
theorem Mem.arg (M : Mem w0 w L) {g : Nat} {t : TypeId} {cs : Array Value} (h : Blk w0 g t cs) : Blk w g t cs := h.kept M.below
theorem Mem.argcell (M : Mem w0 w L) {a : Addr} {v : Value} (h : w0.cell? a = some v) : w.cell? a = some v :=
  (M.below.cell (World.block_lt_of_cell? w0 a h)).trans h
theorem Mem.row (M : Mem w0 w L) (i : Nat) {v : Value} {e : TypeId} {sz n : Nat} {cs : List Value} (h : L[i]? = some (.row v e sz n cs)) : w.ownsRow w0.heap.size e sz v n cs := M.all i _ h
theorem Mem.row_form (M : Mem w0 w L) (i : Nat) {v : Value} {e : TypeId} {sz n : Nat} {cs : List Value} (h : L[i]? = some (.row v e sz n cs)) (hn : 0 < n) :
    ∃ g cap, v = .slice (some ⟨g, 0, none⟩) n cap ∧ n ≤ cap := by
  rcases (M.row i h).2 with ⟨_, h0⟩ | ⟨g, cap, cur, rfl, _, _, hc, _⟩
  · omega
  · exact ⟨g, cap, rfl, hc⟩
theorem Mem.row_slice (M : Mem w0 w L) (i : Nat) {v : Value} {e : TypeId} {sz n : Nat} {cs : List Value} (h : L[i]? = some (.row v e sz n cs)) :
    ∃ A cap, v = .slice A n cap ∧ n ≤ cap ∧ cap ≤ maxLen := by
  rcases (M.row i h).2 with ⟨rfl, h0⟩ | ⟨g, cap, cur, rfl, _, _, hc, hm, _⟩
  · exact ⟨none, 0, by rw [h0], by omega, by unfold maxLen; omega⟩
  · exact ⟨_, cap, rfl, hc, hm⟩
theorem Mem.row_len (M : Mem w0 w L) (i : Nat) {v : Value} {e : TypeId} {sz n : Nat} {cs : List Value} (h : L[i]? = some (.row v e sz n cs)) : cs.length = n * sz := (M.row i h).1
theorem Mem.row_cell (M : Mem w0 w L) (i : Nat) {g cap : Nat} {e : TypeId} {sz n : Nat} {cs : List Value} (h : L[i]? = some (.row (.slice (some ⟨g, 0, none⟩) n cap) e sz n cs)) {j : Nat} {u : Value} (hu : cs[j]? = some u) :
    w.cell? ⟨g, j, none⟩ = some u := by
  have hl := M.row_len i h
  have hj : j < cs.length := (List.getElem?_eq_some_iff.1 hu).1
  rw [(M.row i h).cellAt j (by omega), hu]
end

section
variable {w0 w w1 : World} {L K : List Ent}
theorem Ent.holds.lower {b b' : Nat} {x : Ent} (h : x.holds b w) (hb : b' ≤ b) : x.holds b' w := by
  cases x with
  | blk g t cs => exact ⟨Nat.le_trans hb h.1, h.2⟩
  | row v e sz n cs => exact row_lower h hb
  | lot rs => exact fun r hr => row_lower (h r hr) hb
/-- What a call has made, besides what was made before it. -/
theorem Mem.join (M : Mem w0 w L) (N : Mem w w1 K) : Mem w0 w1 (L ++ K) := by
  have M1 := M.kept N.below
  have key : ∀ (i : Nat) (y : Ent), (L ++ K)[i]? = some y → (i < L.length ∧ L[i]? = some y) ∨ (L.length ≤ i ∧ K[i - L.length]? = some y) := by
    intro i y h
    rcases Nat.lt_or_ge i L.length with hl | hl
    · rw [List.getElem?_append_left hl] at h; exact .inl ⟨hl, h⟩
    · rw [List.getElem?_append_right hl] at h; exact .inr ⟨hl, h⟩
  have fresh : ∀ (i j : Nat) (y z : Ent), L[i]? = some y → K[j]? = some z → y.apart z := fun i j y z hy hz k hk hk' => by
    have := ((M.all i y hy).lt hk).2
    have := ((N.all j z hz).lt hk').1
    omega
  refine ⟨M1.below, fun i y h => ?_, fun i j y z hij hy hz => ?_⟩
  · rcases key i y h with ⟨_, h'⟩ | ⟨_, h'⟩
    · exact M1.all i y h'
    · exact (N.all _ y h').lower M.size
  · rcases key i y hy with ⟨hi, h1⟩ | ⟨hi, h1⟩ <;> rcases key j z hz with ⟨hj, h2⟩ | ⟨hj, h2⟩
    · exact M.sep i j y z hij h1 h2
    · exact fresh i _ y z h1 h2
    · exact (fresh j _ z y h2 h1).symm
    · exact N.sep _ _ y z (by omega) h1 h2
/-- Only some of what has been made is of use any longer. -/
theorem Mem.only (M : Mem w0 w L) (is : List Nat) {K : List Ent} (h : is.map (fun i => L[i]?) = K.map some) (hd : is.Nodup) : Mem w0 w K := by
  have key : ∀ (i : Nat) (x : Ent), K[i]? = some x → ∃ j, is[i]? = some j ∧ L[j]? = some x := by
    intro i x hx
    have h1 : (is.map (fun i => L[i]?))[i]? = (K.map some)[i]? := by rw [h]
    simp only [List.getElem?_map, hx, Option.map_some] at h1
    cases hi : is[i]? with
    | none => simp [hi] at h1
    | some j => exact ⟨j, rfl, by simpa [hi] using h1⟩
  refine ⟨M.below, fun i x hx => ?_, fun i j x y hij hx hy => ?_⟩
  · obtain ⟨k, _, hk⟩ := key i x hx
    exact M.all k x hk
  · obtain ⟨k, hk1, hk⟩ := key i x hx
    obtain ⟨l, hl1, hl⟩ := key j y hy
    refine M.sep k l x y (fun e => hij ?_) hk hl
    subst e
    have a1 := (List.getElem?_eq_some_iff.1 hk1)
    have a2 := (List.getElem?_eq_some_iff.1 hl1)
    exact (List.getElem_inj (h₀ := a1.1) (h₁ := a2.1) hd).mp (a1.2.trans a2.2.symm)
end
end Go.Proofs.YtkomhngokcejbaaGreatDoor
namespace Go.Proofs.YtkomhngokcejbaaGreatDoor
set_option linter.unusedSimpArgs false
set_option linter.unusedVariables false
open Go.RowKit

section
variable {P : Program} {ops : Array Oper} {rest : List Oper} {o : Oper} {a : Act} {w0 w : World} {Q : Exit → Act → World → Prop} {L : List Ent}
/-- A new variable. -/
theorem Mem.ev_new (M : Mem w0 w L) (hgd : o.guard = none) {cs : Array Value} {t : TypeId}
    (hrun : (execOp a.eval o).run P w = .ok (.value (.pointer (some ⟨w.heap.size, 0, none⟩))) (w.alloc (.cells cs t (0, 0))))
    (h : ∀ g w1, Mem w0 w1 (L ++ [.blk g t cs]) → wpList P ops Q rest (a.put o.dst (.pointer (some ⟨g, 0, none⟩))) w1) : wpList P ops Q (o :: rest) a w :=
  Go.Proofs.YtkomhngokcejbaaGreatDoor.ev_new hgd hrun fun g w1 hg hb hB => h g w1 (M.new hg hb hB)
/-- A store of one cell of a variable. -/
theorem Mem.ev_set (M : Mem w0 w L) (i : Nat) (hgd : o.guard = none) (hdst : o.dst = none) {g j : Nat} {t : TypeId} {cs : Array Value} (v : Value) (hi : L[i]? = some (.blk g t cs))
    (hrun : (execOp a.eval o).run P w = .ok .skip (w.setCell ⟨g, j, none⟩ v))
    (h : ∀ w1, Mem w0 w1 (L.set i (.blk g t (cs.setIfInBounds j v))) → wpList P ops Q rest a w1) : wpList P ops Q (o :: rest) a w :=
  Go.Proofs.YtkomhngokcejbaaGreatDoor.ev_set hgd hdst (M.blk i hi) hrun fun w1 hb hU => h w1 (M.upd i hi hb hU)
/-- A load of a whole variable. -/
theorem Mem.ev_ldw (M : Mem w0 w L) (i : Nat) (T : TypeId) (x : Operand) (ho : o.op = .load T x) (hgd : o.guard = none) {g : Nat} {t : TypeId} {cs : Array Value} (hL : L[i]? = some (.blk g t cs)) {d : TypeDesc}
    (hu : P.underlying T = some d) (hd : (match d with | .struct _ | .array _ _ => true | _ => false) = true) (hi : (P.info? T).map (·.size) = some cs.size)
    (hx : a.eval x = .pointer (some ⟨g, 0, none⟩)) (h : wpList P ops Q rest (a.put o.dst (.agg cs)) w) : wpList P ops Q (o :: rest) a w :=
  ev_load T x ho hgd (M.blk i hL) hu hd hi hx h
/-- A load of a whole variable that was there before. -/
theorem Mem.ev_lda (M : Mem w0 w L) (T : TypeId) (x : Operand) (ho : o.op = .load T x) (hgd : o.guard = none) {g : Nat} {t : TypeId} {cs : Array Value} (hb : Blk w0 g t cs) {d : TypeDesc}
    (hu : P.underlying T = some d) (hd : (match d with | .struct _ | .array _ _ => true | _ => false) = true) (hi : (P.info? T).map (·.size) = some cs.size)
    (hx : a.eval x = .pointer (some ⟨g, 0, none⟩)) (h : wpList P ops Q rest (a.put o.dst (.agg cs)) w) : wpList P ops Q (o :: rest) a w :=
  ev_load T x ho hgd (M.arg hb) hu hd hi hx h
/-- A store of a whole variable. -/
theorem Mem.ev_stw (M : Mem w0 w L) (i : Nat) (T : TypeId) (x y : Operand) (ho : o.op = .store T x y) (hgd : o.guard = none) {g : Nat} {t : TypeId} {cs : Array Value} (hL : L[i]? = some (.blk g t cs))
    (hx : a.eval x = .pointer (some ⟨g, 0, none⟩)) (cs' : Array Value) (hy : a.eval y = .agg cs')
    (hl : cs.size = cs'.size) (hi : (P.info? T).map (·.size) = some cs'.size) (h1 : cs'.all (·.oneCell') = true) (hdst : o.dst = none)
    (h : ∀ w1, Mem w0 w1 (L.set i (.blk g t cs')) → wpList P ops Q rest a w1) : wpList P ops Q (o :: rest) a w :=
  ev_store T x y ho hgd (M.blk i hL) cs' hl hi h1 hx hy hdst fun w1 hb hU => h w1 (M.upd i hL hb hU)
end

def TypeDesc_row (d : TypeDesc) : Bool := match d with | .struct _ | .array _ _ => true | _ => false
section
variable {P : Program} {ops : Array Oper} {rest : List Oper} {o : Oper} {a : Act} {w0 w : World} {Q : Exit → Act → World → Prop} {L : List Ent}
theorem run_get (T : TypeId) {d : TypeDesc} (hu : P.underlying T = some d) (hd : TypeDesc_row d = false) {p : Addr} {v : Value} (hc : w.cell? p = some v) :
    (Instr.loadAt T (.pointer (some p))).run P w = .ok v w := by
  have hagg : (isAgg T).run P w = .ok false w := by
    unfold isAgg
    rw [Sem.run_bind, run_underlying hu w]
    cases d <;> simp_all [TypeDesc_row]
  simp [Instr.loadAt, Instr.sureAddr, loadVar, Sem.run_bind, hagg, load, Sem.run, hc]
theorem ev_get (T : TypeId) (x : Operand) (ho : o.op = .load T x) (hgd : o.guard = none) {p : Addr} {v : Value} (hc : w.cell? p = some v) {d : TypeDesc}
    (hu : P.underlying T = some d) (hd : TypeDesc_row d = false) (hx : a.eval x = .pointer (some p)) (h : wpList P ops Q rest (a.put o.dst v) w) : wpList P ops Q (o :: rest) a w := by
  refine wpList_plain hgd fun K hK => ?_
  unfold Oper.wp execOp
  simp only [ho, hx, Sem.run_bind, Result.andThen_ok, run_get T hu hd hc, Sem.run_pure]
  exact hK _ _ h
end

section
variable {P : Program} {ops : Array Oper} {rest : List Oper} {o : Oper} {a : Act} {w0 w : World} {Q : Exit → Act → World → Prop} {L : List Ent}
theorem cells_one {v : Value} (h : v.oneCell' = true) : v.cells = #[v] := by
  cases v <;> simp_all [Value.oneCell', Value.cells]
theorem run_put (T : TypeId) (hi : (P.info? T).map (·.size) = some 1) {b j : Nat} {v old : Value} (h1 : v.oneCell' = true) (hc : w.cell? ⟨b, j, none⟩ = some old) (hf : w.frozen? ⟨b, j, none⟩ = false) :
    (Instr.storeAt T (.pointer (some ⟨b, j, none⟩)) v).run P w = .ok () (w.setCell ⟨b, j, none⟩ v) := by
  cases hq : P.info? T with
  | none => simp [hq] at hi
  | some i =>
    have hs : i.size = 1 := by simpa [hq] using hi
    have hst := run_storeCells_cells (P := P) b j [v] 0 w (fun k hk => by
        have : k = 0 := by simpa using hk
        subst this; simp [hc]) (fun k hk => by
        have : k = 0 := by simpa using hk
        subst this; simpa using hf) (fun u hu => by simp at hu; subst hu; exact h1)
    simp only [Instr.storeAt, Instr.sureAddr, storeVar, Sem.run_bind, Sem.run_pure, Result.andThen_ok, sizeOf, typeInfo, hq, cells_one h1, hs]
    simp only [Nat.add_zero] at hst
    simpa [hq, hs, World.setCells] using hst
theorem Mem.ev_put (M : Mem w0 w L) (i : Nat) (T : TypeId) (x y : Operand) (ho : o.op = .store T x y) (hgd : o.guard = none) {g j : Nat} {t : TypeId} {cs : Array Value} (hL : L[i]? = some (.blk g t cs))
    (hx : a.eval x = .pointer (some ⟨g, j, none⟩)) (v : Value) (hy : a.eval y = v)
    (hj : j < cs.size) (hi : (P.info? T).map (·.size) = some 1) (h1 : v.oneCell' = true) (hdst : o.dst = none)
    (h : ∀ w1, Mem w0 w1 (L.set i (.blk g t (cs.setIfInBounds j v))) → wpList P ops Q rest a w1) : wpList P ops Q (o :: rest) a w := by
  have hb := M.blk i hL
  have hc : w.cell? ⟨g, j, none⟩ = some cs[j] := hb.cellv (Array.getElem?_eq_getElem hj)
  refine wpList_plain hgd fun K hK => ?_
  unfold Oper.wp execOp
  simp only [ho, hx, hy, Sem.run_bind, Result.andThen_ok, run_put T hi h1 hc (hb.frozen j), Sem.run_pure]
  show K (a.put o.dst undef) _
  rw [hdst]
  exact hK _ _ (h _ (M.upd i hL (hb.set_ j v) (Upd.setCell w g j v)))
theorem Mem.ev_ld (M : Mem w0 w L) (i : Nat) (T : TypeId) (x : Operand) (ho : o.op = .load T x) (hgd : o.guard = none) {g j : Nat} {t : TypeId} {cs : Array Value} (hL : L[i]? = some (.blk g t cs))
    {d : TypeDesc} (hu : P.underlying T = some d) (hd : TypeDesc_row d = false) (hx : a.eval x = .pointer (some ⟨g, j, none⟩)) {v : Value} (hv : cs[j]? = some v)
    (h : wpList P ops Q rest (a.put o.dst v) w) : wpList P ops Q (o :: rest) a w :=
  ev_get T x ho hgd ((M.blk i hL).cellv hv) hu hd hx h
end

section
variable {P : Program} {ops : Array Oper} {rest : List Oper} {o : Oper} {a : Act} {w : World} {Q : Exit → Act → World → Prop}
/-- A store of one cell of a block that was there before. -/
theorem ev_put (T : TypeId) (x y : Operand) (ho : o.op = .store T x y) (hgd : o.guard = none) {g j : Nat} {t : TypeId} {cs : Array Value} (hb : Blk w g t cs)
    (hx : a.eval x = .pointer (some ⟨g, j, none⟩)) (v : Value) (hy : a.eval y = v)
    (hj : j < cs.size) (hi : (P.info? T).map (·.size) = some 1) (h1 : v.oneCell' = true) (hdst : o.dst = none)
    (h : ∀ w1, Blk w1 g t (cs.setIfInBounds j v) → Upd w w1 g → wpList P ops Q rest a w1) : wpList P ops Q (o :: rest) a w := by
  have hc : w.cell? ⟨g, j, none⟩ = some cs[j] := hb.cellv (Array.getElem?_eq_getElem hj)
  refine wpList_plain hgd fun K hK => ?_
  unfold Oper.wp execOp
  simp only [ho, hx, hy, Sem.run_bind, Result.andThen_ok, run_put T hi h1 hc (hb.frozen j), Sem.run_pure]
  show K (a.put o.dst undef) _
  rw [hdst]
  exact hK _ _ (h _ (hb.set_ j v) (Upd.setCell w g j v))
end
end Go.Proofs.YtkomhngokcejbaaGreatDoor
namespace Go.Proofs.YtkomhngokcejbaaGreatDoor
set_option linter.unusedSimpArgs false
set_option linter.unusedVariables false
open Go.RowKit

/-- A list's cells, one element behind the other. -/
def flat {α : Type} (enc : α → List Value) (xs : List α) : List Value := xs.flatMap enc
section
variable {α : Type} {enc : α → List Value} {sz : Nat}
theorem flat_len (h : ∀ x, (enc x).length = sz) (xs : List α) : (flat enc xs).length = xs.length * sz := by
  induction xs with
  | nil => simp [flat]
  | cons x xs ih =>
    simp only [flat, List.flatMap_cons, List.length_append, List.length_cons, h x]
    rw [show (xs.flatMap enc).length = xs.length * sz from ih, Nat.add_mul]; omega
theorem flat_snoc (xs : List α) (x : α) : flat enc (xs ++ [x]) = flat enc xs ++ enc x := by simp [flat]
theorem flat_append (xs ys : List α) : flat enc (xs ++ ys) = flat enc xs ++ flat enc ys := by simp [flat]
theorem flat_at (h : ∀ x, (enc x).length = sz) {xs : List α} {k : Nat} {x : α} (hk : xs[k]? = some x) {j : Nat} {v : Value} (hv : (enc x)[j]? = some v) : (flat enc xs)[k * sz + j]? = some v := by
  induction xs generalizing k with
  | nil => simp at hk
  | cons y ys ih =>
    simp only [flat, List.flatMap_cons]
    cases k with
    | zero =>
      simp only [List.getElem?_cons_zero, Option.some.injEq] at hk
      subst hk
      rw [Nat.zero_mul, Nat.zero_add, List.getElem?_append_left (List.getElem?_eq_some_iff.1 hv).1]
      exact hv
    | succ k =>
      simp only [List.getElem?_cons_succ] at hk
      rw [List.getElem?_append_right (by rw [h y, Nat.add_mul]; omega), h y, show (k + 1) * sz + j - sz = k * sz + j by rw [Nat.add_mul]; omega]
      exact ih hk
/-- Some elements of a list of cells, exchanged. -/
def splL (cs : List Value) (o : Nat) (vs : List Value) : List Value := cs.take o ++ vs ++ cs.drop (o + vs.length)
end
/-- A slice value (its address, its length) that reads as these cells, sz of them an element. -/
def Sl (w : World) (sz : Nat) (A : Option Addr) (n : Nat) (cs : List Value) : Prop :=
  cs.length = n * sz ∧ (0 < n → ∃ b off, A = some ⟨b, off, none⟩ ∧ w.rangeAt b off cs)

section
variable {w w0 w1 : World} {sz n : Nat} {A : Option Addr} {cs : List Value} {L : List Ent}
theorem range_kept {b off : Nat} (h : w.rangeAt b off cs) (hb : Below w.heap.size w w1) : w1.rangeAt b off cs := fun j v hv => by
  have hc := h j v hv
  exact (hb.cell (World.block_lt_of_cell? w _ hc)).trans hc
theorem Sl.kept (h : Sl w sz A n cs) (hb : Below w.heap.size w w1) : Sl w1 sz A n cs :=
  ⟨h.1, fun hn => by
    obtain ⟨b, off, e, hr⟩ := h.2 hn
    exact ⟨b, off, e, range_kept hr hb⟩⟩
theorem Sl.nil_ : Sl w sz A 0 [] := ⟨by simp, fun h => absurd h (by omega)⟩
theorem Mem.sl (M : Mem w0 w L) (h : Sl w0 sz A n cs) : Sl w sz A n cs := h.kept M.below
theorem Mem.row_sl (M : Mem w0 w L) (i : Nat) {v : Value} {e : TypeId} (h : L[i]? = some (.row v e sz n cs)) : ∃ A cap, v = .slice A n cap ∧ n ≤ cap ∧ Sl w sz A n cs := by
  obtain ⟨A, cap, rfl, hc, _⟩ := M.row_slice i h
  refine ⟨A, cap, rfl, hc, M.row_len i h, fun hn => ?_⟩
  obtain ⟨g, cap', e1, _⟩ := M.row_form i h hn
  obtain rfl : A = some ⟨g, 0, none⟩ := by injection e1
  refine ⟨g, 0, rfl, fun j u hu => ?_⟩
  rw [Nat.zero_add]
  exact M.row_cell i h hu
theorem Mem.slof (M : Mem w0 w L) (i : Nat) {c : Nat} {e : TypeId} (h : L[i]? = some (.row (.slice A n c) e sz n cs)) : Sl w sz A n cs := by
  obtain ⟨A', c', e1, _, hs⟩ := M.row_sl i h
  injection e1 with e1
  subst e1
  exact hs
theorem range_at {α : Type} {enc : α → List Value} (henc : ∀ x, (enc x).length = sz) {xs : List α} {b off : Nat} (h : w.rangeAt b off (flat enc xs)) {k : Nat} {x : α} (hk : xs[k]? = some x) :
    w.rangeAt b (off + k * sz) (enc x) := fun j v hv => by
  have := h (k * sz + j) v (flat_at henc hk hv)
  rwa [← Nat.add_assoc] at this
end

section
variable {w w0 w1 : World} {L : List Ent}
end

section
variable {P : Program} {ops : Array Oper} {rest : List Oper} {o : Oper} {a : Act} {w0 w : World} {Q : Exit → Act → World → Prop} {L : List Ent}
/-- What the program's table says of an element type. -/
structure ElemOk (P : Program) (T e : TypeId) (z : Value) (sz bytes : Nat) : Prop where
  sl : P.underlying T = some (.slice e)
  info : (P.info? e).map (fun i => (i.zero, i.size, i.bytes)) = some (some z, sz, bytes)
  zs : z.cells.size = sz
  pos : 0 < sz
theorem ElemOk.get {T e : TypeId} {z : Value} {sz bytes : Nat} (E : ElemOk P T e z sz bytes) : ∃ i, P.info? e = some i ∧ i.zero = some z ∧ i.size = sz ∧ i.bytes = bytes := by
  have h := E.info
  cases hq : P.info? e with
  | none => simp [hq] at h
  | some i =>
    simp only [hq, Option.map_some, Option.some.injEq, Prod.mk.injEq] at h
    exact ⟨i, rfl, h.1, h.2.1, h.2.2⟩
/-- append of cells that lie somewhere in memory. -/
theorem Mem.ev_append (M : Mem w0 w L) (i : Nat) {T e : TypeId} {zv : Value} {sz bytes : Nat} (E : ElemOk P T e zv sz bytes) (hgd : o.guard = none) (s x : Operand)
    (ho : o.op = .call { callee := .builtin .append, args := #[s, x], argTypes := #[T, T] }) {v : Value} {n : Nat} {cs : List Value} (hL : L[i]? = some (.row v e sz n cs)) (hs : a.eval s = v)
    {ad : Addr} {m c : Nat} (hx : a.eval x = .slice (some ad) m c) {news : List Value} (hl : news.length = m * sz) (hnews : ∀ j u, news[j]? = some u → w.cell? (ad.add j) = some u) (h1 : ∀ u ∈ news, u.oneCell' = true)
    (hbytes : (n + m) * bytes ≤ 140737488355328) (hb0 : 0 < bytes)
    (h : ∀ v' w1, Mem w0 w1 (L.set i (.row v' e sz (n + m) (cs ++ news))) → wpList P ops Q rest (a.put o.dst v') w1) : wpList P ops Q (o :: rest) a w := by
  obtain ⟨inf, hi, hz1, hz2, hz3⟩ := E.get
  have hml : n + m ≤ maxLen := by
    unfold maxLen
    have : n + m ≤ (n + m) * bytes := Nat.le_mul_of_pos_right _ hb0
    omega
  obtain ⟨v', w', hrun, hown, hg, _, hat⟩ := run_append_own_at (P := P) w w0.heap.size T o.type e inf zv sz bytes E.sl hi hz1 hz2 hz3 E.zs E.pos v n cs (M.row i hL) ad m c news hl hnews h1 hml hbytes M.size
  refine wpList_plain hgd fun K hK => ?_
  unfold Oper.wp execOp
  simp only [ho, resolve, invoke, builtin, Sem.run_bind, Sem.run_pure, Result.andThen_ok, List.map_toArray, List.map_cons, List.map_nil, hs, hx, hrun]
  refine hK _ _ (h v' w' (M.change i hL ?_ hown (fun k hk hne => hg.block k hk (fun e => hne e.symm)) (fun k hk => ?_)))
  · refine M.below.grown hg M.size (fun k hk => ((M.all i _ hL).lt (k := k) hk).1)
  · rcases hat with e1 | e1
    · exact .inl (show v.ownBlock = some k from e1.symm.trans hk)
    · refine .inr ?_
      have hk : v'.ownBlock = some k := hk
      rw [e1] at hk
      injection hk with hk
      omega
/-- .. of one element that has just been laid into a variable of its own. -/
theorem Mem.ev_append1 (M : Mem w0 w L) (i j : Nat) {T e : TypeId} {zv : Value} {sz bytes : Nat} (E : ElemOk P T e zv sz bytes) (hgd : o.guard = none) (s x : Operand)
    (ho : o.op = .call { callee := .builtin .append, args := #[s, x], argTypes := #[T, T] }) {v : Value} {n : Nat} {cs : List Value} (hL : L[i]? = some (.row v e sz n cs)) (hs : a.eval s = v)
    {g c : Nat} {t : TypeId} {news : Array Value} (hx : a.eval x = .slice (some ⟨g, 0, none⟩) 1 c) (hN : L[j]? = some (.blk g t news)) (hl : news.size = sz) (h1 : news.all (·.oneCell') = true)
    (hbytes : (n + 1) * bytes ≤ 140737488355328) (hb0 : 0 < bytes)
    (h : ∀ v' w1, Mem w0 w1 (L.set i (.row v' e sz (n + 1) (cs ++ news.toList))) → wpList P ops Q rest (a.put o.dst v') w1) : wpList P ops Q (o :: rest) a w :=
  M.ev_append i E hgd s x ho hL hs hx (news := news.toList) (by simp [hl]) (fun k u hu => by
    rw [show (⟨g, 0, none⟩ : Addr).add k = ⟨g, k, none⟩ by unfold Addr.add; split <;> simp_all]
    exact (M.blk j hN).cellv (by simpa using hu)) (fun u hu => by
      rw [Array.all_eq_true_iff_forall_mem] at h1
      exact h1 u (by simpa using hu)) hbytes hb0 h
/-- A load of several cells of a slice. -/
theorem ev_ldr (T : TypeId) (x : Operand) (ho : o.op = .load T x) (hgd : o.guard = none) {b off : Nat} {vs : List Value} (hr : w.rangeAt b off vs) {d : TypeDesc} (hu : P.underlying T = some d) (hd : d.isRow = true)
    (hi : (P.info? T).map (·.size) = some vs.length) (hx : a.eval x = .pointer (some ⟨b, off, none⟩)) (h : wpList P ops Q rest (a.put o.dst (.agg vs.toArray)) w) : wpList P ops Q (o :: rest) a w :=
  wpList_load_mid hgd T x ho b off hx vs d hr hu hd hi h
end

/-- A call hands back a row of its own. -/
def RetRow (w : World) (T : TypeId) (sz n : Nat) (cs : List Value) (e : Ending) (w' : World) : Prop :=
  ∃ A c, e = .returned (.slice A n c) ∧ n ≤ c ∧ Mem w w' [.row (.slice A n c) T sz n cs]
end Go.Proofs.YtkomhngokcejbaaGreatDoor
namespace Go.Proofs.YtkomhngokcejbaaGreatDoor
set_option linter.unusedSimpArgs false
set_option linter.unusedVariables false

def inB (n lo hi : Int) : Bool := decide (lo ≤ n) && decide (n ≤ hi)
theorem inB_iff {n lo hi : Int} : inB n lo hi = true ↔ lo ≤ n ∧ n ≤ hi := by simp [inB]
theorem inB_not {n lo hi : Int} : inB n lo hi = false ↔ n < lo ∨ hi < n := by
  rw [← Bool.not_eq_true, inB_iff]; omega

end Go.Proofs.YtkomhngokcejbaaGreatDoor
