/- Texts of a proof, laid together: Held, Held3, SameF, Grow, Cells, Rets, Sets, Sets2, Soil. -/
import Derived.Test.YtkomhngokcejbaaGreatDoorZV01
import Derived.OrdersHeld
import Derived.Test.YtkomhngokcejbaaGreatDoorZV00
import Derived.Great.BuildSlice
import Derived.Laws.OwnMore
import Derived.Laws.Bits64b
namespace Go.Proofs.YtkomhngokcejbaaGreatDoor
set_option linter.unusedSimpArgs false
set_option linter.unusedVariables false
open Go.RowKit

section
variable {P : Program} {md : Region.Mode} {ops : Array Oper} {Q : Exit → Act → World → Prop} {S : World → Prop} {fuel : Nat} {listed : Array Bool} {a : Act} {w : World}
theorem takeH {i : Nat} {oi : Oper} {v : Value} (d : Tmp) (hi : ops[i]? = some oi)
    (hs : Region.noSelect ops = true) (hf : Region.free md ops listed i = true) (hr : (Region.ready md ops listed).contains i = true)
    (hQ : ∀ c a w, Q (.panic c) (a.put oi.dst v) w → Q (.panic c) a w) (hd : oi.dst = some d) (hS : S w) (hy : YieldsIf P ops S oi v a)
    (h : wpAnyH P md ops Q S fuel (listed.setIfInBounds i true) (a.put (some d) v) w) : wpAnyH P md ops Q S (fuel + 1) listed a w :=
  wpAnyH_take hi hs hf hr hQ hy hS (by rw [hd]; exact h)
theorem ylds {o : Oper} (T : TypeId) (x : Operand) (ho : o.op = .load T x) (hg : o.guard = none) {p : Addr} {v : Value} {d : TypeDesc} (hu : P.underlying T = some d) (hd : TypeDesc_row d = false)
    (hx : a.eval x = .pointer (some p)) (hc : ∀ w, S w → w.cell? p = some v) : YieldsIf P ops S o v a :=
  .inl ⟨by simp [Region.wanted, hg], fun w hS => by
    unfold execOp
    simp only [ho, hx, Sem.run_bind, Result.andThen_ok, run_get T hu hd (hc w hS), Sem.run_pure]⟩
theorem yldsW {o : Oper} (T : TypeId) (x : Operand) (ho : o.op = .load T x) (hw : Region.wanted o (yielded ops a.tmps) = true) {p : Addr} {v : Value} {d : TypeDesc} (hu : P.underlying T = some d) (hd : TypeDesc_row d = false)
    (hx : a.eval x = .pointer (some p)) (hc : ∀ w, S w → w.cell? p = some v) : YieldsIf P ops S o v a :=
  .inl ⟨hw, fun w hS => by
    unfold execOp
    simp only [ho, hx, Sem.run_bind, Result.andThen_ok, run_get T hu hd (hc w hS), Sem.run_pure]⟩
theorem any1H (i : Nat) {o : Oper} (hr : Region.ready md ops listed = [i]) (ho : ops[i]? = some o)
    (h : ∀ K : Act → World → Prop, (∀ a w, S w ∧ wpAnyH P md ops Q S fuel (listed.setIfInBounds i true) a w → K a w) → wpList P ops (onward K) [o] a w) : wpAnyH P md ops Q S (fuel + 1) listed a w :=
  wpAnyH_all hr (by simp) fun j hj => by
    rw [List.mem_singleton.1 hj]
    exact wpOp_onward ho (h _ fun _ _ h => h)
theorem any2H (i j : Nat) {o o' : Oper} (hr : Region.ready md ops listed = [i, j]) (ho : ops[i]? = some o) (ho' : ops[j]? = some o')
    (h : ∀ K : Act → World → Prop, (∀ a w, S w ∧ wpAnyH P md ops Q S fuel (listed.setIfInBounds i true) a w → K a w) → wpList P ops (onward K) [o] a w)
    (h' : ∀ K : Act → World → Prop, (∀ a w, S w ∧ wpAnyH P md ops Q S fuel (listed.setIfInBounds j true) a w → K a w) → wpList P ops (onward K) [o'] a w) : wpAnyH P md ops Q S (fuel + 1) listed a w :=
  wpAnyH_all hr (by simp) fun k hk => by
    rcases List.mem_cons.1 hk with rfl | hk
    · exact wpOp_onward ho (h _ fun _ _ h => h)
    · rw [List.mem_singleton.1 hk]
      exact wpOp_onward ho' (h' _ fun _ _ h => h)
theorem region_anyH {id : Nat} (S : World → Prop) (hm : P.follows .mixedOrders = true)
    (h : wpAnyH P .any ops Q S ops.size (Array.replicate ops.size false) a w.drew) : (Code.region id ops true).wp P Q a w := wp_region_held hm h
end
end Go.Proofs.YtkomhngokcejbaaGreatDoor
namespace Go.Proofs.YtkomhngokcejbaaGreatDoor
set_option linter.unusedSimpArgs false
set_option linter.unusedVariables false
open Go.RowKit

section
variable {P : Program} {ops : Array Oper} {rest : List Oper} {o : Oper} {a : Act} {w : World} {Q : Exit → Act → World → Prop}
/-- An operation whose guard lets it run. -/
theorem gate_want (hw : Region.wanted o (yielded ops a.tmps) = true) (h : wpList P ops Q ({ o with guard := none } :: rest) a w) : wpList P ops Q (o :: rest) a w := by
  unfold wpList at h ⊢
  rw [if_pos hw]
  rw [if_pos (by simp [Region.wanted])] at h
  exact h
end
section
variable {P : Program} {md : Region.Mode} {ops : Array Oper} {Q : Exit → Act → World → Prop} {S : World → Prop} {fuel : Nat} {listed : Array Bool} {a : Act} {w : World}
theorem yldwW {o : Oper} (T : TypeId) (x : Operand) (ho : o.op = .load T x) (hw : Region.wanted o (yielded ops a.tmps) = true) {g : Nat} {t : TypeId} {cs : Array Value} {d : TypeDesc} (hu : P.underlying T = some d)
    (hd : (match d with | .struct _ | .array _ _ => true | _ => false) = true) (hi : (P.info? T).map (·.size) = some cs.size) (hx : a.eval x = .pointer (some ⟨g, 0, none⟩)) (hb : ∀ w, S w → Blk w g t cs) : YieldsIf P ops S o (.agg cs) a :=
  .inl ⟨hw, fun w hS => by
    have hagg : (isAgg T).run P w = .ok true w := by
      unfold isAgg
      rw [Sem.run_bind, run_underlying hu w]
      cases d <;> simp_all
    unfold execOp
    simp only [ho, hx, Instr.loadAt, Instr.sureAddr, Sem.run_bind, Result.andThen_ok, run_loadVar_row w g t T cs (0, 0) d (hb w hS) hu hd hi, Sem.run_pure, hagg]⟩
end
end Go.Proofs.YtkomhngokcejbaaGreatDoor
namespace Go.Proofs.YtkomhngokcejbaaGreatDoor
set_option linter.unusedSimpArgs false
set_option linter.unusedVariables false
open Go.RowKit
attribute [local go_sem] cell?_mk frozen?_mk
--ONES exact Flock.one _

theorem sl_rangeFlock {w : World} {sz b off n k : Nat} {cs : List Value} (h : Sl w sz (some ⟨b, off, none⟩) n cs) (hn : k < n) : w.rangeAt b off cs := by
  obtain ⟨b1, o1, hB, hr⟩ := h.2 (by omega)
  cases hB
  exact hr
theorem neqFlock (x : Flock) (w : World) : (binOp .neq 48 (.agg x.vals.toArray) (.agg x.vals.toArray)).run Tryz.prog w = .ok (.bool false) w := by
  have ui16 := Tryz.underlying26
  have ai16 := Tryz.isAgg26
  have zi16 := Tryz.sizeOf26
  have ui8 := Tryz.underlying24
  have ai8 := Tryz.isAgg24
  have zi8 := Tryz.sizeOf24
  have u4 := Tryz.underlying48
  unfold Flock.vals
  obtain ⟨e0, e1, e2, e3, e4, e5⟩ := x
  go_simp
set_option maxRecDepth 100000 in
set_option maxHeartbeats 2000000 in
theorem FlockSame_any (A B : Option Addr) (c d : Nat) (xs : List Flock) (w : World) (hl : xs.length ≤ 1048576) (hx : Sl w 6 A xs.length (flat Flock.vals xs)) (hy : Sl w 6 B xs.length (flat Flock.vals xs)) :
    Calls Tryz.prog 13 #[.slice A xs.length c, .slice B xs.length d] w fun e w' => e = .returned (.bool true) ∧ Mem w w' [] := by
  have M := Lib.hid (Mem.start w)
  have HX := Lib.hid hx
  have HY := Lib.hid hy
  clear hx hy
  go_enter Tryz.func13, Tryz.ntmps13
  go_wp2
  go_loopw [5] (fun v wr => ∃ k : Nat, k ≤ xs.length ∧ v = .int .i64 k ∧ Mem w wr [])
    (fun v _ => xs.length - (intOf v).toNat)
  case atStart => exact ⟨0, by omega, rfl, M.out⟩
  case round =>
    clear M
    obtain ⟨k, hk, rfl, m⟩ := hrel
    have M := Lib.hid m
    clear m
    by_cases hlt : k < xs.length
    · obtain ⟨b, off, rfl, _⟩ := HX.out.2 (by omega)
      obtain ⟨b2, off2, rfl, _⟩ := HY.out.2 (by omega)
      have HXK := Lib.hid (show xs[k]? = some xs[k] from List.getElem?_eq_getElem hlt)
      have i0 : (0 : Int) ≤ (k : Int) := by omega
      have i1 : (k : Int) < (xs.length : Int) := by omega
      obtain ⟨x, hx⟩ : ∃ x, x = xs[k] := ⟨_, rfl⟩
      rw [← hx] at HXK
      clear hx
      have heq := neqFlock x
      go_wp2
      refine region_anyH (fun w' => Mem w w' []) (by kernel_rfl) ?_
      have m := M.out.drew
      clear M
      have M := Lib.hid m
      clear m
      apply takeH (i := 0) 17 rfl (by kernel_rfl) (by kernel_rfl) (by kernel_rfl) (fun _ _ _ h => h) rfl (by first | exact M.out | exact M.out.take 0)
      case' hy =>
        refine Or.inl ⟨by first | rfl | (go_simp; done), ?_⟩
        intro w hS
        clear hS
        go_simp
        try with_reducible rfl
      try simp only [Act.put, List.getElem_toArray, List.getElem_cons_succ, List.getElem_cons_zero, List.setIfInBounds_toArray, List.set_cons_succ, List.set_cons_zero]
      apply takeH (i := 1) 18 rfl (by kernel_rfl) (by kernel_rfl) (by kernel_rfl) (fun _ _ _ h => h) rfl (by first | exact M.out | exact M.out.take 0)
      case' hy =>
        refine Or.inl ⟨by first | rfl | (go_simp; done), ?_⟩
        intro w hS
        clear hS
        go_simp
        try with_reducible rfl
      try simp only [Act.put, List.getElem_toArray, List.getElem_cons_succ, List.getElem_cons_zero, List.setIfInBounds_toArray, List.set_cons_succ, List.set_cons_zero]
      apply takeH (i := 2) 19 rfl (by kernel_rfl) (by kernel_rfl) (by kernel_rfl) (fun _ _ _ h => h) rfl (by first | exact M.out | exact M.out.take 0)
      case' hy =>
        refine Or.inl ⟨by first | rfl | (go_simp; done), ?_⟩
        intro w hS
        clear hS
        go_simp
        try with_reducible rfl
      try simp only [Act.put, List.getElem_toArray, List.getElem_cons_succ, List.getElem_cons_zero, List.setIfInBounds_toArray, List.set_cons_succ, List.set_cons_zero]
      apply takeH (i := 3) 20 rfl (by kernel_rfl) (by kernel_rfl) (by kernel_rfl) (fun _ _ _ h => h) rfl (by first | exact M.out | exact M.out.take 0)
      case' hy => exact yieldsIf_load_mid (by first | rfl | (go_simp; done)) _ _ rfl _ _ rfl _ _ (fun w' hS => range_at Flock.vl (sl_rangeFlock (hS.sl HX.out) hlt) HXK.out) Tryz.underlying48 rfl sz48
      try simp only [Act.put, List.getElem_toArray, List.getElem_cons_succ, List.getElem_cons_zero, List.setIfInBounds_toArray, List.set_cons_succ, List.set_cons_zero]
      apply takeH (i := 4) 21 rfl (by kernel_rfl) (by kernel_rfl) (by kernel_rfl) (fun _ _ _ h => h) rfl (by first | exact M.out | exact M.out.take 0)
      case' hy =>
        refine Or.inl ⟨by first | rfl | (go_simp; done), ?_⟩
        intro w hS
        clear hS
        go_simp
        try with_reducible rfl
      try simp only [Act.put, List.getElem_toArray, List.getElem_cons_succ, List.getElem_cons_zero, List.setIfInBounds_toArray, List.set_cons_succ, List.set_cons_zero]
      apply takeH (i := 5) 22 rfl (by kernel_rfl) (by kernel_rfl) (by kernel_rfl) (fun _ _ _ h => h) rfl (by first | exact M.out | exact M.out.take 0)
      case' hy =>
        refine Or.inl ⟨by first | rfl | (go_simp; done), ?_⟩
        intro w hS
        clear hS
        go_simp
        try with_reducible rfl
      try simp only [Act.put, List.getElem_toArray, List.getElem_cons_succ, List.getElem_cons_zero, List.setIfInBounds_toArray, List.set_cons_succ, List.set_cons_zero]
      apply takeH (i := 6) 23 rfl (by kernel_rfl) (by kernel_rfl) (by kernel_rfl) (fun _ _ _ h => h) rfl (by first | exact M.out | exact M.out.take 0)
      case' hy =>
        refine Or.inl ⟨by first | rfl | (go_simp; done), ?_⟩
        intro w hS
        clear hS
        go_simp
        try with_reducible rfl
      try simp only [Act.put, List.getElem_toArray, List.getElem_cons_succ, List.getElem_cons_zero, List.setIfInBounds_toArray, List.set_cons_succ, List.set_cons_zero]
      apply takeH (i := 7) 24 rfl (by kernel_rfl) (by kernel_rfl) (by kernel_rfl) (fun _ _ _ h => h) rfl (by first | exact M.out | exact M.out.take 0)
      case' hy => exact yieldsIf_load_mid (by first | rfl | (go_simp; done)) _ _ rfl _ _ rfl _ _ (fun w' hS => range_at Flock.vl (sl_rangeFlock (hS.sl HY.out) hlt) HXK.out) Tryz.underlying48 rfl sz48
      try simp only [Act.put, List.getElem_toArray, List.getElem_cons_succ, List.getElem_cons_zero, List.setIfInBounds_toArray, List.set_cons_succ, List.set_cons_zero]
      apply takeH (i := 8) 25 rfl (by kernel_rfl) (by kernel_rfl) (by kernel_rfl) (fun _ _ _ h => h) rfl (by first | exact M.out | exact M.out.take 0)
      case' hy =>
        refine Or.inl ⟨by first | rfl | (go_simp; done), ?_⟩
        intro w hS
        clear hS
        go_simp
        try with_reducible rfl
      try simp only [Act.put, List.getElem_toArray, List.getElem_cons_succ, List.getElem_cons_zero, List.setIfInBounds_toArray, List.set_cons_succ, List.set_cons_zero]
      refine wpAnyH_done (by kernel_rfl) ?_ _
      go_wp2
      exact ⟨⟨k + 1, by omega, by go_num, M.out⟩, by simp [intOf]; omega⟩
    · obtain rfl : k = xs.length := by omega
      go_wp2
      go_ret
      exact ⟨rfl, M.out⟩
end Go.Proofs.YtkomhngokcejbaaGreatDoor
namespace Go.Proofs.YtkomhngokcejbaaGreatDoor
set_option linter.unusedSimpArgs false
set_option linter.unusedVariables false
open Go.RowKit

section
variable {P : Program} {ops : Array Oper} {rest : List Oper} {o : Oper} {a : Act} {w0 w : World} {Q : Exit → Act → World → Prop} {L : List Ent}
theorem run_bs0 {T e : TypeId} {zv : Value} {sz bytes : Nat} (E : ElemOk P T e zv sz bytes) (w : World) :
    (Instr.buildSlice T 0 #[]).run P w = .ok (.slice (some ⟨w.heap.size, 0, none⟩) 0 0) (w.alloc (.cells #[] e)) := by
  obtain ⟨i, hi, h1, h2, h3⟩ := E.get
  have h0 : Array.range 0 = #[] := by simp
  simp [Instr.buildSlice, run_underlying E.sl, sizeOf, typeInfo, hi, newRow, Instr.fill, h0]
theorem Mem.row0 (M : Mem w0 w L) (e : TypeId) (sz : Nat) : Mem w0 (w.alloc (.cells #[] e)) (L ++ [.row (.slice (some ⟨w.heap.size, 0, none⟩) 0 0) e sz 0 []]) :=
  M.push _ ((Below.refl _ _).alloc (Nat.le_refl _) _) ⟨by simp, .inr ⟨w.heap.size, 0, #[], rfl, M.size, heap_alloc_new w _, Nat.le_refl _, by unfold maxLen; omega, by simp, by simp⟩⟩ (fun k hk => by
    simp only [Ent.place, Value.ownBlock, Option.some.injEq] at hk; omega)
/-- []T{}. -/
theorem Mem.ev_bs0 (M : Mem w0 w L) {T e : TypeId} {zv : Value} {sz bytes : Nat} (E : ElemOk P T e zv sz bytes) (hgd : o.guard = none) (ho : o.op = .buildSlice T 0 #[])
    (h : ∀ g w1, Mem w0 w1 (L ++ [.row (.slice (some ⟨g, 0, none⟩) 0 0) e sz 0 []]) → wpList P ops Q rest (a.put o.dst (.slice (some ⟨g, 0, none⟩) 0 0)) w1) : wpList P ops Q (o :: rest) a w := by
  refine wpList_plain hgd fun K hK => ?_
  unfold Oper.wp execOp
  have hm : (#[] : Array (Nat × Operand)).map (fun (i, x) => (i, a.eval x)) = #[] := by simp
  simp only [ho, hm, Sem.run_bind, run_bs0 E, Result.andThen_ok]
  exact hK _ _ (h _ _ (M.row0 e sz))
/-- []T{x}. -/
theorem Mem.ev_bs1 (M : Mem w0 w L) {T e : TypeId} {zv : Value} {sz bytes : Nat} (E : ElemOk P T e zv sz bytes) (hgd : o.guard = none) (x : Operand) (ho : o.op = .buildSlice T 1 #[(0, x)])
    (cs : Array Value) (hx : (a.eval x).cells = cs) (hl : cs.size = sz) (hsz : sz ≤ 2 ^ 24)
    (h : ∀ g w1, Mem w0 w1 (L ++ [.blk g e cs]) → wpList P ops Q rest (a.put o.dst (.slice (some ⟨g, 0, none⟩) 1 1)) w1) : wpList P ops Q (o :: rest) a w := by
  obtain ⟨i, hi, h1, h2, h3⟩ := E.get
  have hp := E.pos
  refine wpList_buildSlice hgd T e 1 _ ho cs i zv E.sl hi h1 (by rw [h2]; omega) (by rw [h2]; omega) ?_ ?_
  · have hc : (a.eval x).cells.size = i.size := by rw [hx, hl, h2]
    have hz : zv.cells.size = i.size := by rw [E.zs, h2]
    have := Great.fill_whole (s := i.size) (by omega) [a.eval x] ((Array.range (1 * i.size)).map (zv.cells[· % zv.cells.size]!)) (by simpa using hc) (by simp)
    simpa [hx] using this
  · exact h _ _ (M.new (Nat.le_refl _) (Blk.new w e cs) ((Below.refl _ _).alloc (Nat.le_refl _) _))
end
end Go.Proofs.YtkomhngokcejbaaGreatDoor
namespace Go.Proofs.YtkomhngokcejbaaGreatDoor
set_option linter.unusedSimpArgs false
set_option linter.unusedVariables false
open Go.RowKit
attribute [local go_sem] cell?_mk frozen?_mk

theorem elem_int64 : ElemOk Tryz.prog 118 2 (.int .i64 0) 1 8 := ⟨by kernel_rfl, by kernel_rfl, by kernel_rfl, by decide⟩
def nat64 (k : Nat) : Value := .int .i64 k
def one64 (k : Nat) : List Value := [nat64 k]
theorem one64_len (k : Nat) : (one64 k).length = 1 := rfl
/-- The cells of a field below a number. -/
def Fld.below (F : Fld) (n : Nat) : List Nat := (List.range n).filter fun (k : Nat) => F.has k
def Fld.all (F : Fld) : List Nat := F.below 100
theorem Fld.below_succ (F : Fld) (n : Nat) : F.below (n + 1) = F.below n ++ if F.has n then [n] else [] := by
  simp only [Fld.below, List.range_succ, List.filter_append]
  congr 1
  cases h : F.has n <;> simp [h]
theorem Fld.below_len (F : Fld) (n : Nat) : (F.below n).length ≤ n := by
  have := List.length_filter_le (fun (k : Nat) => F.has k) (List.range n)
  rwa [List.length_range] at this
theorem Fld.all_has {F : Fld} {k : Nat} (h : k ∈ F.all) : k < 100 ∧ F.has k = true := by
  simpa [Fld.all, Fld.below] using h

set_option maxRecDepth 100000 in
set_option maxHeartbeats 1000000 in
theorem cells_any (g : Nat) {t : TypeId} (F : Fld) (hF : F.ok) (w : World) (hb : Blk w g t F.cells) :
    Calls Tryz.prog 175 #[.pointer (some ⟨g, 0, none⟩)] w (RetRow w 2 1 F.all.length (flat one64 F.all)) := by
  have M := Lib.hid (Mem.start w)
  have HB := Lib.hid hb
  have HF := Lib.hid hF
  clear hb hF
  go_enter Tryz.func175, Tryz.ntmps175
  go_wp2_with (first
    | ((with_reducible refine gate_dst (N := 5) rfl ?_); go_must (refine M.out.ev_bs0 elem_int64 rfl rfl ?_); intro g5 w5 m; simp only [List.nil_append] at m; have M := Lib.hid m; clear m)
    )
  go_loopw [3, 6] (fun s v wr => ∃ k : Nat, k ≤ 100 ∧ v = .int .i64 k ∧ Mem w wr [.row s 2 1 (F.below k).length (flat one64 (F.below k))])
    (fun _ v _ => 100 - (intOf v).toNat)
  case atStart => exact ⟨0, by omega, rfl, M.out⟩
  case round =>
    clear M
    obtain ⟨k, hk, rfl, m⟩ := hrel
    have M := Lib.hid m
    clear m
    by_cases hlt : k < 100
    · have hkl := F.below_len k
      cases hq : F.has k
      · have HQ := Lib.hid hq
        clear hq
        go_wp2_with (first
          | (go_at_call 86; go_must (refine (has_any g F HF.out _ _ (M.out.arg HB.out)).mono ?_); rintro e w_ ⟨rfl, rfl⟩; rw [HQ.out])
          )
        refine ⟨⟨k + 1, by omega, by go_num, ?_⟩, by simp [intOf]; omega⟩
        rw [F.below_succ, HQ.out]
        simpa using M.out
      · have HQ := Lib.hid hq
        clear hq
        go_wp2_with (first
          | (go_at_call 86; go_must (refine (has_any g F HF.out _ _ (M.out.arg HB.out)).mono ?_); rintro e w_ ⟨rfl, rfl⟩; rw [HQ.out])
          | ((with_reducible refine gate_dst (N := 14) rfl ?_); go_must (refine M.out.ev_bs1 elem_int64 rfl _ rfl #[.int .i64 k] rfl rfl (by decide) ?_); intro g14 w14 m; simp only [List.cons_append, List.nil_append] at m; have M := Lib.hid m; clear m)
          | ((with_reducible refine gate_dst (N := 15) rfl ?_); go_must (refine M.out.ev_append1 0 1 elem_int64 rfl _ _ rfl rfl rfl rfl rfl rfl (by simp [Value.oneCell']) (by omega) (by decide) ?_); intro v15 w15 m; simp only [List.set_cons_zero] at m; have M := Lib.hid m; clear m)
          )
        refine ⟨⟨k + 1, by omega, by go_num, ?_⟩, by simp [intOf]; omega⟩
        have m := M.out.take 1
        rw [F.below_succ, HQ.out]
        simpa [flat_append, flat, one64, nat64] using m
    · obtain rfl : k = 100 := by omega
      go_wp2
      have hrow := M.out.row_slice 0 rfl
      obtain ⟨A, c, rfl, hc, _⟩ := hrow
      go_ret
      exact ⟨A, c, rfl, hc, M.out⟩
end Go.Proofs.YtkomhngokcejbaaGreatDoor
namespace Go.Proofs.YtkomhngokcejbaaGreatDoor
set_option linter.unusedSimpArgs false
set_option linter.unusedVariables false
open Go.RowKit

/-- A value that points to a variable of a type, and what lies there. -/
def Var (P : Program) (w : World) (ty : TypeId) (v : Value) (cs : Array Value) : Prop :=
  ∃ g, v = .pointer (some ⟨g, 0, none⟩) ∧ (loadVar ty ⟨g, 0, none⟩).run P w = .ok (.agg cs) w
theorem Blk.var {P : Program} {w : World} {g : Nat} {t : TypeId} {cs : Array Value} (hb : Blk w g t cs) {ty : TypeId} {d : TypeDesc} (hu : P.underlying ty = some d) (hd : (match d with | .struct _ | .array _ _ => true | _ => false) = true)
    (hi : (P.info? ty).map (·.size) = some cs.size) : Var P w ty (.pointer (some ⟨g, 0, none⟩)) cs := ⟨g, rfl, run_loadVar_row w g t ty cs (0, 0) d hb hu hd hi⟩
section
variable {P : Program} {fn : Func} {R : Ending → World → Prop} {tmps : Array Value} {w : World} {p q u x : Tmp} {ty ty' : TypeId} {cs cs' : Array Value}
theorem ret_ct (hr : fn.results = #[.cell p ty, .tmp u]) (hp : Var P w ty (tmps.getD p undef) cs) (h : R (.returned (.tuple #[.agg cs, tmps.getD u undef])) w) : bodyPost P fn R .ret { tmps := tmps, defers := [] } w := by
  obtain ⟨g, h1, h2⟩ := hp
  have h1' : tmps[p]?.getD undef = .pointer (some ⟨g, 0, none⟩) := by simpa using h1
  refine bodyPost_ret (v := .tuple #[.agg cs, tmps.getD u undef]) ?_ rfl h
  simp [results, hr, h1', asAddr, h2]
theorem ret_cc (hr : fn.results = #[.cell p ty, .cell q ty']) (hp : Var P w ty (tmps.getD p undef) cs) (hq : Var P w ty' (tmps.getD q undef) cs')
    (h : R (.returned (.tuple #[.agg cs, .agg cs'])) w) : bodyPost P fn R .ret { tmps := tmps, defers := [] } w := by
  obtain ⟨g, h1, h2⟩ := hp
  obtain ⟨g', h3, h4⟩ := hq
  have h1' : tmps[p]?.getD undef = .pointer (some ⟨g, 0, none⟩) := by simpa using h1
  have h3' : tmps[q]?.getD undef = .pointer (some ⟨g', 0, none⟩) := by simpa using h3
  refine bodyPost_ret (v := .tuple #[.agg cs, .agg cs']) ?_ rfl h
  simp [results, hr, h1', h3', asAddr, h2, h4]
end
end Go.Proofs.YtkomhngokcejbaaGreatDoor
namespace Go.Proofs.YtkomhngokcejbaaGreatDoor
set_option linter.unusedSimpArgs false
set_option linter.unusedVariables false
open Go.RowKit
attribute [local go_sem] cell?_mk frozen?_mk

structure Cs where
  lo : Nat
  hi : Nat
structure Cs.ok (c : Cs) : Prop where
  l : c.lo < 18446744073709551616
  h : c.hi < 18446744073709551616
def Cs.vals (c : Cs) : List Value := [.int .u64 c.lo, .int .u64 c.hi]
def Cs.cells (c : Cs) : Array Value := c.vals.toArray
theorem Cs.size (c : Cs) : c.cells.size = 2 := rfl
theorem Cs.one (c : Cs) : c.cells.all (·.oneCell') = true := by simp [Cs.cells, Cs.vals, Value.oneCell']
def Cs.z : Cs := ⟨0, 0⟩
theorem Cs.z_ok : Cs.z.ok := ⟨by decide, by decide⟩
def Cs.put (c : Cs) (n : Nat) : Cs := if n < 64 then ⟨c.lo ||| 2 ^ n, c.hi⟩ else ⟨c.lo, c.hi ||| 2 ^ (n - 64)⟩
def Cs.has (c : Cs) (n : Nat) : Bool := if n < 64 then c.lo.testBit n else c.hi.testBit (n - 64)
def setOf (ks : List Nat) : Cs := ks.foldl Cs.put Cs.z
theorem setOf_snoc (ks : List Nat) (k : Nat) : setOf (ks ++ [k]) = (setOf ks).put k := by simp [setOf]
theorem pow64 {n : Nat} (h : n < 64) : 2 ^ n < 18446744073709551616 := Nat.pow_lt_pow_right (a := 2) (by omega) h
theorem or64 {a b : Nat} (ha : a < 18446744073709551616) (hb : b < 18446744073709551616) : a ||| b < 18446744073709551616 := Nat.or_lt_two_pow (n := 64) ha hb
theorem Cs.put_ok {c : Cs} (h : c.ok) {n : Nat} (hn : n < 128) : (c.put n).ok := by
  unfold Cs.put
  split
  · rename_i h1; exact ⟨or64 h.l (pow64 h1), h.h⟩
  · exact ⟨h.l, or64 h.h (pow64 (by omega))⟩
theorem setOf_ok (ks : List Nat) (h : ∀ k ∈ ks, k < 128) : (setOf ks).ok := by
  have key : ∀ (ks : List Nat) (c : Cs), c.ok → (∀ k ∈ ks, k < 128) → (ks.foldl Cs.put c).ok := by
    intro ks
    induction ks with
    | nil => intro c hc _; exact hc
    | cons k r ih => intro c hc h; exact ih _ (Cs.put_ok hc (h k (by simp))) (fun j hj => h j (by simp [hj]))
  exact key ks _ Cs.z_ok h
theorem or_pow (a n : Nat) (ha : a < 18446744073709551616) (hn : n < 64) : bits .or .u64 (a : Int) (IntKind.u64.wrap (2 ^ n)) = ((a ||| 2 ^ n : Nat) : Int) := by
  have hp := pow64 hn
  have : IntKind.u64.wrap ((2 : Int) ^ n) = ((2 ^ n : Nat) : Int) := by
    rw [IntKind.wrap_u64]
    have : ((2 : Int) ^ n) = ((2 ^ n : Nat) : Int) := by simp
    rw [this]
    generalize 2 ^ n = m at hp ⊢
    omega
  rw [this, bits_or_u64_nat a _ ha hp]

set_option maxRecDepth 100000 in
set_option maxHeartbeats 1000000 in
theorem put_any {w0 w : World} {L : List Ent} (i : Nat) (M0 : Mem w0 w L) (b : Nat) {t : TypeId} (c : Cs) (hc : c.ok) (hL : L[i]? = some (.blk b t c.cells)) (n : Nat) (hn : n < 100) :
    Calls Tryz.prog 155 #[.pointer (some ⟨b, 0, none⟩), .int .i64 n] w fun e w' => e = .returned (.tuple #[]) ∧ Mem w0 w' (L.set i (.blk b t (c.put n).cells)) := by
  have M := Lib.hid M0
  have HL := Lib.hid hL
  have i0 : (0 : Int) ≤ (n : Int) := by omega
  have v0 : IntKind.i64.wrap 0 = 0 := by decide
  have v1 : IntKind.i64.wrap 1 = 1 := by decide
  clear M0 hL
  by_cases h : n < 64
  · have hq : (n : Int) / 64 = 0 := by omega
    have hr : (n : Int).tmod 64 = n := by rw [Int.tmod_eq_emod_of_nonneg i0]; omega
    have c0 := M.out.cell i HL.out (j := 0) (v := .int .u64 c.lo) rfl
    have hb := or_pow c.lo n hc.l h
    have HP := Lib.hid (show c.put n = ⟨c.lo ||| 2 ^ n, c.hi⟩ by rw [Cs.put, if_pos h])
    clear h
    go_enter Tryz.func155, Tryz.ntmps155
    go_still_tail 12, (by kernel_rfl)
    have M := Lib.hid M.out.drew
    go_wp2_with (first
      | ((with_reducible refine gate_store (x := .tmp 15) rfl ?_); go_must (refine M.out.ev_put i _ _ _ rfl rfl HL.out rfl (.int .u64 ((c.lo ||| 2 ^ n : Nat) : Int)) rfl (show 0 < c.cells.size by rw [Cs.size]; omega) sz38 rfl rfl ?_); intro wn m; have M := Lib.hid m; clear m)
      )
    refine bodyPost_end (results_none rfl _ _ _) rfl ?_
    exact ⟨rfl, by rw [HP.out]; exact M.out⟩
  · obtain ⟨j, hj⟩ : ∃ j, n = 64 + j := ⟨n - 64, by omega⟩
    have hq : (n : Int) / 64 = 1 := by omega
    have hr : (n : Int).tmod 64 = (j : Int) := by rw [Int.tmod_eq_emod_of_nonneg i0]; omega
    have j0 : (0 : Int) ≤ (j : Int) := by omega
    have hm : min j 64 = j := by omega
    have c0 := M.out.cell i HL.out (j := 1) (v := .int .u64 c.hi) rfl
    have hb := or_pow c.hi j hc.h (by omega)
    have HP := Lib.hid (show c.put n = ⟨c.lo, c.hi ||| 2 ^ j⟩ by rw [Cs.put, if_neg h, hj, Nat.add_sub_cancel_left])
    clear h hj
    go_enter Tryz.func155, Tryz.ntmps155
    go_still_tail 12, (by kernel_rfl)
    have M := Lib.hid M.out.drew
    go_wp2_with (first
      | ((with_reducible refine gate_store (x := .tmp 15) rfl ?_); go_must (refine M.out.ev_put i _ _ _ rfl rfl HL.out rfl (.int .u64 ((c.hi ||| 2 ^ j : Nat) : Int)) rfl (show 1 < c.cells.size by rw [Cs.size]; omega) sz38 rfl rfl ?_); intro wn m; have M := Lib.hid m; clear m)
      )
    refine bodyPost_end (results_none rfl _ _ _) rfl ?_
    exact ⟨rfl, by rw [HP.out]; exact M.out⟩
set_option maxRecDepth 100000 in
set_option maxHeartbeats 1000000 in
theorem l01Put_any {w0 w : World} {L : List Ent} (i : Nat) (M0 : Mem w0 w L) (b : Nat) {t : TypeId} (c : Cs) (hc : c.ok) (hL : L[i]? = some (.blk b t c.cells)) (n : Nat) (hn : n < 100) :
    Calls Tryz.prog 73 #[.pointer (some ⟨b, 0, none⟩), .int .i64 n] w fun e w' => e = .returned (.tuple #[]) ∧ Mem w0 w' (L.set i (.blk b t (c.put n).cells)) := by
  have M := Lib.hid M0
  have HL := Lib.hid hL
  have i0 : (0 : Int) ≤ (n : Int) := by omega
  have v0 : IntKind.i64.wrap 0 = 0 := by decide
  have v1 : IntKind.i64.wrap 1 = 1 := by decide
  clear M0 hL
  by_cases h : n < 64
  · have hq : (n : Int) / 64 = 0 := by omega
    have hr : (n : Int).tmod 64 = n := by rw [Int.tmod_eq_emod_of_nonneg i0]; omega
    have hu : IntKind.u64.wrap (n : Int) = n := IntWalk.u64_in _ (by omega)
    have hm : min n 64 = n := by omega
    have c0 := M.out.cell i HL.out (j := 0) (v := .int .u64 c.lo) rfl
    have hb := or_pow c.lo n hc.l h
    have HP := Lib.hid (show c.put n = ⟨c.lo ||| 2 ^ n, c.hi⟩ by rw [Cs.put, if_pos h])
    clear h
    go_enter Tryz.func73, Tryz.ntmps73
    go_still_tail 13, (by kernel_rfl)
    have M := Lib.hid M.out.drew
    go_wp2_with (first
      | ((with_reducible refine gate_store (x := .tmp 16) rfl ?_); go_must (refine M.out.ev_put i _ _ _ rfl rfl HL.out rfl (.int .u64 ((c.lo ||| 2 ^ n : Nat) : Int)) rfl (show 0 < c.cells.size by rw [Cs.size]; omega) sz38 rfl rfl ?_); intro wn m; have M := Lib.hid m; clear m)
      )
    refine bodyPost_end (results_none rfl _ _ _) rfl ?_
    exact ⟨rfl, by rw [HP.out]; exact M.out⟩
  · obtain ⟨j, hj⟩ : ∃ j, n = 64 + j := ⟨n - 64, by omega⟩
    have hq : (n : Int) / 64 = 1 := by omega
    have hr : (n : Int).tmod 64 = (j : Int) := by rw [Int.tmod_eq_emod_of_nonneg i0]; omega
    have j0 : (0 : Int) ≤ (j : Int) := by omega
    have hm : min j 64 = j := by omega
    have hu : IntKind.u64.wrap (j : Int) = j := IntWalk.u64_in _ (by omega)
    have c0 := M.out.cell i HL.out (j := 1) (v := .int .u64 c.hi) rfl
    have hb := or_pow c.hi j hc.h (by omega)
    have HP := Lib.hid (show c.put n = ⟨c.lo, c.hi ||| 2 ^ j⟩ by rw [Cs.put, if_neg h, hj, Nat.add_sub_cancel_left])
    clear h hj
    go_enter Tryz.func73, Tryz.ntmps73
    go_still_tail 13, (by kernel_rfl)
    have M := Lib.hid M.out.drew
    go_wp2_with (first
      | ((with_reducible refine gate_store (x := .tmp 16) rfl ?_); go_must (refine M.out.ev_put i _ _ _ rfl rfl HL.out rfl (.int .u64 ((c.hi ||| 2 ^ j : Nat) : Int)) rfl (show 1 < c.cells.size by rw [Cs.size]; omega) sz38 rfl rfl ?_); intro wn m; have M := Lib.hid m; clear m)
      )
    refine bodyPost_end (results_none rfl _ _ _) rfl ?_
    exact ⟨rfl, by rw [HP.out]; exact M.out⟩
end Go.Proofs.YtkomhngokcejbaaGreatDoor
namespace Go.Proofs.YtkomhngokcejbaaGreatDoor
set_option linter.unusedSimpArgs false
set_option linter.unusedVariables false
open Go.RowKit
attribute [local go_sem] cell?_mk frozen?_mk

theorem and_bit (a n : Nat) (ha : a < 18446744073709551616) : bits .and .u64 ((a : Int) / 2 ^ n) 1 = if a.testBit n = true then 1 else 0 := by
  have h1 : ((a : Int) / 2 ^ n) = ((a / 2 ^ n : Nat) : Int) := by simp
  have h2 : a / 2 ^ n < 18446744073709551616 := Nat.lt_of_le_of_lt (Nat.div_le_self _ _) ha
  have h3 := bits_and_u64_nat (a / 2 ^ n) 1 h2 (by decide)
  rw [h1]
  rw [show ((1 : Nat) : Int) = 1 from rfl] at h3
  rw [h3, Nat.and_one_is_mod, Nat.testBit_eq_decide_div_mod_eq]
  generalize a / 2 ^ n = m
  by_cases h : m % 2 = 1
  · rw [h]; simp
  · have : m % 2 = 0 := by omega
    rw [this]; simp
def Cs.ks : List IntKind := [.u64, .u64]
theorem bounds_u64 {n : Int} (h : (Lit.int .u64 n).wf = true) : 0 ≤ n ∧ n ≤ 18446744073709551615 := by
  simpa [Lit.wf, IntKind.min, IntKind.max, IntKind.bits, IntKind.signed] using h
theorem Cs.of_conf (cs : List Value) (h : Conf Cs.ks cs) : ∃ c : Cs, c.ok ∧ c.vals = cs := by
  obtain ⟨a, r, rfl, w0, h⟩ := h.cons
  obtain ⟨b, r, rfl, w1, h⟩ := h.cons
  obtain rfl := h.nil_eq
  have h0 := bounds_u64 w0
  have h1 := bounds_u64 w1
  refine ⟨⟨a.toNat, b.toNat⟩, ⟨by show a.toNat < _; omega, by show b.toNat < _; omega⟩, ?_⟩
  show [Value.int .u64 (a.toNat : Int), Value.int .u64 (b.toNat : Int)] = _
  rw [Int.toNat_of_nonneg h0.1, Int.toNat_of_nonneg h1.1]
set_option maxRecDepth 100000 in
set_option maxHeartbeats 1000000 in
theorem HasCell_any (c : Cs) (hc : c.ok) (k : Nat) (hk : k < 100) (w : World) :
    Calls Tryz.prog 154 #[.agg c.cells, .int .i64 k] w fun e w' => e = .returned (.bool (c.has k)) ∧ Mem w w' [] := by
  have M := Lib.hid (Mem.start w)
  have i0 : (0 : Int) ≤ (k : Int) := by omega
  have v0 : IntKind.i64.wrap 0 = 0 := by decide
  have v1 : IntKind.i64.wrap 1 = 1 := by decide
  have hin : inB (k : Int) 0 99 = true := inB_iff.2 ⟨i0, by omega⟩
  have HIN := Lib.hid hin
  clear hin
  by_cases h : k < 64
  · have hq : (k : Int) / 64 = 0 := by omega
    have hr : (k : Int).tmod 64 = k := by rw [Int.tmod_eq_emod_of_nonneg i0]; omega
    have hm : min k 64 = k := by omega
    have hu : IntKind.u64.wrap (k : Int) = k := IntWalk.u64_in _ (by omega)
    have hb1 := and_bit c.lo k hc.l
    have hh : c.has k = c.lo.testBit k := by rw [Cs.has, if_pos h]
    have HH := Lib.hid hh
    clear hh h
    cases ht : c.lo.testBit k <;>
    · have HT := Lib.hid ht
      rw [ht] at hb1
      simp only [if_true, Bool.false_eq_true, if_false] at hb1
      clear ht
      go_enter Tryz.func154, Tryz.ntmps154
      go_wp2_with (first
        | ((with_reducible refine gate_dst (N := 2) rfl ?_); go_must (refine M.out.ev_new rfl (by first | (go_simp; done) | (go_simp; rfl)) ?_); intro g2 w2 m; simp only [List.cons_append, List.nil_append] at m; have M := Lib.hid m; clear m)
        | (go_at_call 94; go_must (refine (within_any _ _ _ _).mono ?_); rintro e w_ ⟨rfl, rfl⟩; rw [HIN.out]; have c0 := M.out.cell (j := 0) (v := .int .u64 c.lo) 0 rfl rfl)
        )
      go_ret
      exact ⟨ret_bool (by rw [HH.out, HT.out]), M.out.take 0⟩
  · obtain ⟨j, hj⟩ : ∃ j, k = 64 + j := ⟨k - 64, by omega⟩
    have hq : (k : Int) / 64 = 1 := by omega
    have hr : (k : Int).tmod 64 = (j : Int) := by rw [Int.tmod_eq_emod_of_nonneg i0]; omega
    have j0 : (0 : Int) ≤ (j : Int) := by omega
    have hm : min j 64 = j := by omega
    have hu : IntKind.u64.wrap (j : Int) = j := IntWalk.u64_in _ (by omega)
    have hb1 := and_bit c.hi j hc.h
    have hh : c.has k = c.hi.testBit j := by rw [Cs.has, if_neg h, hj, Nat.add_sub_cancel_left]
    have HH := Lib.hid hh
    clear hh h hj
    cases ht : c.hi.testBit j <;>
    · have HT := Lib.hid ht
      rw [ht] at hb1
      simp only [if_true, Bool.false_eq_true, if_false] at hb1
      clear ht
      go_enter Tryz.func154, Tryz.ntmps154
      go_wp2_with (first
        | ((with_reducible refine gate_dst (N := 2) rfl ?_); go_must (refine M.out.ev_new rfl (by first | (go_simp; done) | (go_simp; rfl)) ?_); intro g2 w2 m; simp only [List.cons_append, List.nil_append] at m; have M := Lib.hid m; clear m)
        | (go_at_call 94; go_must (refine (within_any _ _ _ _).mono ?_); rintro e w_ ⟨rfl, rfl⟩; rw [HIN.out]; have c0 := M.out.cell (j := 1) (v := .int .u64 c.hi) 0 rfl rfl)
        )
      go_ret
      exact ⟨ret_bool (by rw [HH.out, HT.out]), M.out.take 0⟩
set_option maxRecDepth 100000 in
set_option maxHeartbeats 1000000 in
theorem l01Has_any (b : Nat) {t : TypeId} (c : Cs) (hc : c.ok) (k : Nat) (hk : k < 100) (w : World) (hb : Blk w b t c.cells) :
    Calls Tryz.prog 83 #[.pointer (some ⟨b, 0, none⟩), .int .i64 k] w fun e w' => e = .returned (.bool (c.has k)) ∧ w = w' := by
  have i0 : (0 : Int) ≤ (k : Int) := by omega
  have v0 : IntKind.i64.wrap 0 = 0 := by decide
  have v1 : IntKind.i64.wrap 1 = 1 := by decide
  have hin : inB (k : Int) 0 99 = true := inB_iff.2 ⟨i0, by omega⟩
  have HIN := Lib.hid hin
  clear hin
  by_cases h : k < 64
  · have hq : (k : Int) / 64 = 0 := by omega
    have hr : (k : Int).tmod 64 = k := by rw [Int.tmod_eq_emod_of_nonneg i0]; omega
    have hm : min k 64 = k := by omega
    have hu : IntKind.u64.wrap (k : Int) = k := IntWalk.u64_in _ (by omega)
    have hb1 := and_bit c.lo k hc.l
    have hh : c.has k = c.lo.testBit k := by rw [Cs.has, if_pos h]
    have c0 := hb.cellv (i := 0) (v := .int .u64 c.lo) rfl
    have HH := Lib.hid hh
    clear hh h
    cases ht : c.lo.testBit k <;>
    · have HT := Lib.hid ht
      rw [ht] at hb1
      simp only [if_true, Bool.false_eq_true, if_false] at hb1
      clear ht
      go_enter Tryz.func83, Tryz.ntmps83
      go_wp2_with (first
        | (go_at_call 103; go_must (refine (l00In_any _ _ _ _).mono ?_); rintro e w_ ⟨rfl, rfl⟩; rw [HIN.out])
        )
      go_ret
      exact ⟨ret_bool (by rw [HH.out, HT.out]), rfl⟩
  · obtain ⟨j, hj⟩ : ∃ j, k = 64 + j := ⟨k - 64, by omega⟩
    have hq : (k : Int) / 64 = 1 := by omega
    have hr : (k : Int).tmod 64 = (j : Int) := by rw [Int.tmod_eq_emod_of_nonneg i0]; omega
    have j0 : (0 : Int) ≤ (j : Int) := by omega
    have hm : min j 64 = j := by omega
    have hu : IntKind.u64.wrap (j : Int) = j := IntWalk.u64_in _ (by omega)
    have hb1 := and_bit c.hi j hc.h
    have hh : c.has k = c.hi.testBit j := by rw [Cs.has, if_neg h, hj, Nat.add_sub_cancel_left]
    have c0 := hb.cellv (i := 1) (v := .int .u64 c.hi) rfl
    have HH := Lib.hid hh
    clear hh h hj
    cases ht : c.hi.testBit j <;>
    · have HT := Lib.hid ht
      rw [ht] at hb1
      simp only [if_true, Bool.false_eq_true, if_false] at hb1
      clear ht
      go_enter Tryz.func83, Tryz.ntmps83
      go_wp2_with (first
        | (go_at_call 103; go_must (refine (l00In_any _ _ _ _).mono ?_); rintro e w_ ⟨rfl, rfl⟩; rw [HIN.out])
        )
      go_ret
      exact ⟨ret_bool (by rw [HH.out, HT.out]), rfl⟩
def Cs.cut (c : Cs) : Cs := ⟨c.lo, c.hi &&& 68719476735⟩
def Cs.both (a b : Cs) : Cs := Cs.cut ⟨a.lo &&& b.lo, a.hi &&& b.hi⟩
theorem and64 {a b : Nat} (ha : a < 18446744073709551616) : a &&& b < 18446744073709551616 := Nat.lt_of_le_of_lt Nat.and_le_left ha
theorem Cs.cut_ok {c : Cs} (h : c.ok) : c.cut.ok := ⟨h.l, and64 h.h⟩
theorem Cs.cut_has (c : Cs) {k : Nat} (hk : k < 100) : c.cut.has k = c.has k := by
  unfold Cs.has Cs.cut
  split
  · rfl
  · rw [Nat.testBit_and, show (68719476735 : Nat) = 2 ^ 36 - 1 by decide, Nat.testBit_two_pow_sub_one, decide_eq_true (by omega), Bool.and_true]
theorem Cs.put_has (c : Cs) (n : Nat) {k : Nat} : (c.put n).has k = (c.has k || decide (n = k)) := by
  unfold Cs.put Cs.has
  by_cases h1 : n < 64 <;> by_cases h2 : k < 64
  · rw [if_pos h1, if_pos h2, if_pos h2, Nat.testBit_or, Nat.testBit_two_pow]
  · rw [if_pos h1, if_neg h2, if_neg h2, decide_eq_false (by omega), Bool.or_false]
  · rw [if_neg h1, if_pos h2, if_pos h2, decide_eq_false (by omega), Bool.or_false]
  · rw [if_neg h1, if_neg h2, if_neg h2, Nat.testBit_or, Nat.testBit_two_pow]
    congr 1
    apply decide_eq_decide.2
    omega
theorem setOf_has (ks : List Nat) (k : Nat) : (setOf ks).has k = ks.contains k := by
  have key : ∀ (ks : List Nat) (c : Cs), (ks.foldl Cs.put c).has k = (c.has k || ks.contains k) := by
    intro ks
    induction ks with
    | nil => intro c; simp
    | cons n r ih =>
      intro c
      rw [List.foldl_cons, ih, Cs.put_has, List.contains_cons, Bool.or_assoc]
      congr 2
      simp [eq_comm, Bool.beq_eq_decide_eq]
  rw [setOf, key]
  have : Cs.z.has k = false := by unfold Cs.has Cs.z; split <;> simp
  rw [this, Bool.false_or]
set_option maxRecDepth 100000 in
set_option maxHeartbeats 1000000 in
theorem cut_any (c : Cs) (hc : c.ok) (w : World) :
    Calls Tryz.prog 101 #[.agg c.cells] w fun e w' => e = .returned (.agg c.cut.cells) ∧ Mem w w' [] := by
  have M := Lib.hid (Mem.start w)
  have hb1 := bits_and_u64_nat c.hi 68719476735 hc.h (by decide)
  have O1 := Lib.hid (Cs.one c.cut)
  have q0 : c.cells[0]? = some (.int .u64 c.lo) := rfl
  have q1 : c.cells[1]? = some (.int .u64 c.hi) := rfl
  rw [show ((68719476735 : Nat) : Int) = 68719476735 from rfl] at hb1
  go_enter Tryz.func101, Tryz.ntmps101
  go_wp2_with (first
    | ((with_reducible refine gate_dst (N := 1) rfl ?_); go_must (refine M.out.ev_new rfl (by first | (go_simp; done) | (go_simp; rfl)) ?_); intro g1 w1 m; simp only [List.cons_append, List.nil_append] at m; have M := Lib.hid m; clear m)
    | ((with_reducible refine gate_dst (N := 2) rfl ?_); go_must (refine M.out.ev_new rfl (by first | (go_simp; done) | (go_simp; rfl)) ?_); intro g2 w2 m; simp only [List.cons_append, List.nil_append] at m; have M := Lib.hid m; clear m)
    | ((with_reducible refine gate_dst (N := 4) rfl ?_); go_must (refine M.out.ev_ld 0 _ _ rfl rfl rfl Tryz.underlying38 rfl rfl (by first | assumption | rfl) ?_))
    | ((with_reducible refine gate_dst (N := 6) rfl ?_); go_must (refine M.out.ev_ld 0 _ _ rfl rfl rfl Tryz.underlying38 rfl rfl (by first | assumption | rfl) ?_))
    | ((with_reducible refine gate_store (x := .tmp 2) rfl ?_); go_must (refine M.out.ev_stw 1 _ _ _ rfl rfl rfl rfl _ rfl (by first | rfl | (simp only [S1.out]; rfl) | (simp only [S1.out, S2.out]; rfl) | (simp only [S3.out]; rfl) | (simp only [S1.out, S2.out, S3.out]; rfl)) (by first | exact sz40 | (rw [S1.out]; exact sz40) | (rw [S2.out]; exact sz40) | (rw [S3.out]; exact sz40)) (by first | exact ints_one _ _ | exact Fld.one _ | exact O1.out | rfl | (simp [Value.oneCell']; done)) rfl ?_); intro wn m; simp only [List.set_cons_succ, List.set_cons_zero, List.setIfInBounds_toArray] at m; have M := Lib.hid m; clear m)
    )
  exact ret_cell rfl (M.out.blk 1 rfl) Tryz.underlying40 rfl sz40 rfl ⟨rfl, M.out.take 0⟩
/-- The numbers of a set below a number. -/
def Cs.below (c : Cs) (n : Nat) : List Nat := (List.range n).filter c.has
def Cs.all (c : Cs) : List Nat := c.below 100
theorem Cs.below_succ (c : Cs) (n : Nat) : c.below (n + 1) = c.below n ++ if c.has n then [n] else [] := by
  simp only [Cs.below, List.range_succ, List.filter_append]
  congr 1
  cases h : c.has n <;> simp [h]
theorem Cs.below_len (c : Cs) (n : Nat) : (c.below n).length ≤ n := by
  have := List.length_filter_le c.has (List.range n)
  rwa [List.length_range] at this
end Go.Proofs.YtkomhngokcejbaaGreatDoor
namespace Go.Proofs.YtkomhngokcejbaaGreatDoor
set_option linter.unusedSimpArgs false
set_option linter.unusedVariables false
open Go.RowKit
attribute [local go_sem] cell?_mk frozen?_mk

end Go.Proofs.YtkomhngokcejbaaGreatDoor
