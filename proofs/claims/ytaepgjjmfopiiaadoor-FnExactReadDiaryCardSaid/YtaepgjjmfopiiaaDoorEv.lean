/- One operation of a walk, told by what it does to 'Mem'. No program. -/
import Derived.Test.YtaepgjjmfopiiaaDoorMem
namespace Go.Proofs.YtaepgjjmfopiiaaDoor
set_option linter.unusedSimpArgs false
set_option linter.unusedVariables false
open Go.RowKit

section
variable {P : Program} {ops : Array Oper} {rest : List Oper} {o : Oper} {a : Act} {w0 w : World} {Q : Exit → Act → World → Prop} {L : List Ent}
/-- A new variable. -/
theorem Mem.ev_new (M : Mem w0 w L) (hgd : o.guard = none) {cs : Array Value} {t : TypeId}
    (hrun : (execOp a.eval o).run P w = .ok (.value (.pointer (some ⟨w.heap.size, 0, none⟩))) (w.alloc (.cells cs t (0, 0))))
    (h : ∀ g w1, Mem w0 w1 (L ++ [.blk g t cs]) → wpList P ops Q rest (a.put o.dst (.pointer (some ⟨g, 0, none⟩))) w1) : wpList P ops Q (o :: rest) a w :=
  Go.Proofs.YtaepgjjmfopiiaaDoor.ev_new hgd hrun fun g w1 hg hb hB => h g w1 (M.new hg hb hB)
/-- A store of one cell of a variable. -/
theorem Mem.ev_set (M : Mem w0 w L) (i : Nat) (hgd : o.guard = none) (hdst : o.dst = none) {g j : Nat} {t : TypeId} {cs : Array Value} (v : Value) (hi : L[i]? = some (.blk g t cs))
    (hrun : (execOp a.eval o).run P w = .ok .skip (w.setCell ⟨g, j, none⟩ v))
    (h : ∀ w1, Mem w0 w1 (L.set i (.blk g t (cs.setIfInBounds j v))) → wpList P ops Q rest a w1) : wpList P ops Q (o :: rest) a w :=
  Go.Proofs.YtaepgjjmfopiiaaDoor.ev_set hgd hdst (M.blk i hi) hrun fun w1 hb hU => h w1 (M.upd i hi hb hU)
/-- A load of a whole variable. -/
theorem Mem.ev_ldw (M : Mem w0 w L) (i : Nat) (T : TypeId) (x : Operand) (ho : o.op = .load T x) (hgd : o.guard = none) {g : Nat} {t : TypeId} {cs : Array Value} (hL : L[i]? = some (.blk g t cs)) {d : TypeDesc}
    (hu : P.underlying T = some d) (hd : (match d with | .struct _ | .array _ _ => true | _ => false) = true) (hi : (P.info? T).map (·.size) = some cs.size)
    (hx : a.eval x = .pointer (some ⟨g, 0, none⟩)) (h : wpList P ops Q rest (a.put o.dst (.agg cs)) w) : wpList P ops Q (o :: rest) a w :=
  ev_load T x ho hgd (M.blk i hL) hu hd hi hx h
/-- A load of a whole variable that was there before. -/
theorem Mem.ev_lda (M : Mem w0 w L) (T : TypeId) (x : Operand) (ho : o.op = .load T x) (hgd : o.guard = none) {g : Nat} {t : TypeId} {cs : Array Value} (hb : Blk w0 g t cs) {d : TypeDesc}
    (hu : P.underlying T = some d) (hd : (match d with | .struct _ | .array _ _ => true | _ => false) = true) (hi : (P.info? T).map (·.size) = some cs.size)
    (hx : a.eval x = .pointer (some ⟨g, 0, none⟩)) (h : wpList P ops Q rest (a.put o.dst (.agg cs)) w) : wpList P ops Q (o :: rest) a w :=
  ev_load T x ho hgd (M.arg hb) hu hd hi hx h
/-- A store of a whole variable. -/
theorem Mem.ev_stw (M : Mem w0 w L) (i : Nat) (T : TypeId) (x y : Operand) (ho : o.op = .store T x y) (hgd : o.guard = none) {g : Nat} {t : TypeId} {cs : Array Value} (hL : L[i]? = some (.blk g t cs))
    (hx : a.eval x = .pointer (some ⟨g, 0, none⟩)) (cs' : Array Value) (hy : a.eval y = .agg cs')
    (hl : cs.size = cs'.size) (hi : (P.info? T).map (·.size) = some cs'.size) (h1 : cs'.all (·.oneCell') = true) (hdst : o.dst = none)
    (h : ∀ w1, Mem w0 w1 (L.set i (.blk g t cs')) → wpList P ops Q rest a w1) : wpList P ops Q (o :: rest) a w :=
  ev_store T x y ho hgd (M.blk i hL) cs' hl hi h1 hx hy hdst fun w1 hb hU => h w1 (M.upd i hL hb hU)
/-- A load of a part of a variable. -/
theorem Mem.ev_ldm (M : Mem w0 w L) (i : Nat) (T : TypeId) (x : Operand) (ho : o.op = .load T x) (hgd : o.guard = none) {g : Nat} {t : TypeId} {cs : Array Value} (hL : L[i]? = some (.blk g t cs)) (off : Nat) (vs : List Value)
    (hv : ∀ j v, vs[j]? = some v → cs[off + j]? = some v) {d : TypeDesc} (hu : P.underlying T = some d) (hd : d.isRow = true) (hi : (P.info? T).map (·.size) = some vs.length)
    (hx : a.eval x = .pointer (some ⟨g, off, none⟩)) (h : wpList P ops Q rest (a.put o.dst (.agg vs.toArray)) w) : wpList P ops Q (o :: rest) a w :=
  ev_load_mid T x ho hgd (M.blk i hL) off vs hv hu hd hi hx h
/-- A store into a part of a variable. -/
theorem Mem.ev_stm (M : Mem w0 w L) (i : Nat) (T : TypeId) (x y : Operand) (ho : o.op = .store T x y) (hgd : o.guard = none) {g : Nat} {t : TypeId} {cs : Array Value} (hL : L[i]? = some (.blk g t cs)) (off : Nat)
    (hx : a.eval x = .pointer (some ⟨g, off, none⟩)) (vs : List Value) (hy : a.eval y = .agg vs.toArray)
    (hl : off + vs.length ≤ cs.size) (hi : (P.info? T).map (·.size) = some vs.length) (h1 : vs.toArray.all (·.oneCell') = true) (hdst : o.dst = none)
    (h : ∀ w1, Mem w0 w1 (L.set i (.blk g t (spl cs off vs))) → wpList P ops Q rest a w1) : wpList P ops Q (o :: rest) a w :=
  ev_store_mid T x y ho hgd (M.blk i hL) off vs hl hi h1 hx hy hdst fun w1 hb hU => h w1 (M.upd i hL hb hU)
end

def TypeDesc_row (d : TypeDesc) : Bool := match d with | .struct _ | .array _ _ => true | _ => false
section
variable {P : Program} {ops : Array Oper} {rest : List Oper} {o : Oper} {a : Act} {w0 w : World} {Q : Exit → Act → World → Prop} {L : List Ent}
theorem run_get (T : TypeId) {d : TypeDesc} (hu : P.underlying T = some d) (hd : TypeDesc_row d = false) {p : Addr} {v : Value} (hc : w.cell? p = some v) :
    (Instr.loadAt T (.pointer (some p))).run P w = .ok v w := by
  have hagg : (isAgg T).run P w = .ok false w := by
    unfold isAgg
    rw [Sem.run_bind, run_underlying hu w]
    cases d <;> simp_all [TypeDesc_row]
  simp [Instr.loadAt, Instr.sureAddr, loadVar, Sem.run_bind, hagg, load, Sem.run, hc]
theorem ev_get (T : TypeId) (x : Operand) (ho : o.op = .load T x) (hgd : o.guard = none) {p : Addr} {v : Value} (hc : w.cell? p = some v) {d : TypeDesc}
    (hu : P.underlying T = some d) (hd : TypeDesc_row d = false) (hx : a.eval x = .pointer (some p)) (h : wpList P ops Q rest (a.put o.dst v) w) : wpList P ops Q (o :: rest) a w := by
  refine wpList_plain hgd fun K hK => ?_
  unfold Oper.wp execOp
  simp only [ho, hx, Sem.run_bind, Result.andThen_ok, run_get T hu hd hc, Sem.run_pure]
  exact hK _ _ h
end

section
variable {P : Program} {ops : Array Oper} {rest : List Oper} {o : Oper} {a : Act} {w0 w : World} {Q : Exit → Act → World → Prop} {L : List Ent}
theorem cells_one {v : Value} (h : v.oneCell' = true) : v.cells = #[v] := by
  cases v <;> simp_all [Value.oneCell', Value.cells]
theorem run_put (T : TypeId) (hi : (P.info? T).map (·.size) = some 1) {b j : Nat} {v old : Value} (h1 : v.oneCell' = true) (hc : w.cell? ⟨b, j, none⟩ = some old) (hf : w.frozen? ⟨b, j, none⟩ = false) :
    (Instr.storeAt T (.pointer (some ⟨b, j, none⟩)) v).run P w = .ok () (w.setCell ⟨b, j, none⟩ v) := by
  cases hq : P.info? T with
  | none => simp [hq] at hi
  | some i =>
    have hs : i.size = 1 := by simpa [hq] using hi
    have hst := run_storeCells_cells (P := P) b j [v] 0 w (fun k hk => by
        have : k = 0 := by simpa using hk
        subst this; simp [hc]) (fun k hk => by
        have : k = 0 := by simpa using hk
        subst this; simpa using hf) (fun u hu => by simp at hu; subst hu; exact h1)
    simp only [Instr.storeAt, Instr.sureAddr, storeVar, Sem.run_bind, Sem.run_pure, Result.andThen_ok, sizeOf, typeInfo, hq, cells_one h1, hs]
    simp only [Nat.add_zero] at hst
    simpa [hq, hs, World.setCells] using hst
theorem Mem.ev_put (M : Mem w0 w L) (i : Nat) (T : TypeId) (x y : Operand) (ho : o.op = .store T x y) (hgd : o.guard = none) {g j : Nat} {t : TypeId} {cs : Array Value} (hL : L[i]? = some (.blk g t cs))
    (hx : a.eval x = .pointer (some ⟨g, j, none⟩)) (v : Value) (hy : a.eval y = v)
    (hj : j < cs.size) (hi : (P.info? T).map (·.size) = some 1) (h1 : v.oneCell' = true) (hdst : o.dst = none)
    (h : ∀ w1, Mem w0 w1 (L.set i (.blk g t (cs.setIfInBounds j v))) → wpList P ops Q rest a w1) : wpList P ops Q (o :: rest) a w := by
  have hb := M.blk i hL
  have hc : w.cell? ⟨g, j, none⟩ = some cs[j] := hb.cellv (Array.getElem?_eq_getElem hj)
  refine wpList_plain hgd fun K hK => ?_
  unfold Oper.wp execOp
  simp only [ho, hx, hy, Sem.run_bind, Result.andThen_ok, run_put T hi h1 hc (hb.frozen j), Sem.run_pure]
  show K (a.put o.dst undef) _
  rw [hdst]
  exact hK _ _ (h _ (M.upd i hL (hb.set_ j v) (Upd.setCell w g j v)))
theorem Mem.ev_ld (M : Mem w0 w L) (i : Nat) (T : TypeId) (x : Operand) (ho : o.op = .load T x) (hgd : o.guard = none) {g j : Nat} {t : TypeId} {cs : Array Value} (hL : L[i]? = some (.blk g t cs))
    {d : TypeDesc} (hu : P.underlying T = some d) (hd : TypeDesc_row d = false) (hx : a.eval x = .pointer (some ⟨g, j, none⟩)) {v : Value} (hv : cs[j]? = some v)
    (h : wpList P ops Q rest (a.put o.dst v) w) : wpList P ops Q (o :: rest) a w :=
  ev_get T x ho hgd ((M.blk i hL).cellv hv) hu hd hx h
end

section
variable {P : Program} {ops : Array Oper} {rest : List Oper} {o : Oper} {a : Act} {w : World} {Q : Exit → Act → World → Prop}
/-- A store of one cell of a block that was there before. -/
theorem ev_put (T : TypeId) (x y : Operand) (ho : o.op = .store T x y) (hgd : o.guard = none) {g j : Nat} {t : TypeId} {cs : Array Value} (hb : Blk w g t cs)
    (hx : a.eval x = .pointer (some ⟨g, j, none⟩)) (v : Value) (hy : a.eval y = v)
    (hj : j < cs.size) (hi : (P.info? T).map (·.size) = some 1) (h1 : v.oneCell' = true) (hdst : o.dst = none)
    (h : ∀ w1, Blk w1 g t (cs.setIfInBounds j v) → Upd w w1 g → wpList P ops Q rest a w1) : wpList P ops Q (o :: rest) a w := by
  have hc : w.cell? ⟨g, j, none⟩ = some cs[j] := hb.cellv (Array.getElem?_eq_getElem hj)
  refine wpList_plain hgd fun K hK => ?_
  unfold Oper.wp execOp
  simp only [ho, hx, hy, Sem.run_bind, Result.andThen_ok, run_put T hi h1 hc (hb.frozen j), Sem.run_pure]
  show K (a.put o.dst undef) _
  rw [hdst]
  exact hK _ _ (h _ (hb.set_ j v) (Upd.setCell w g j v))
end
end Go.Proofs.YtaepgjjmfopiiaaDoor
