/- Texts of a proof, laid together: RowI0, Rets, Sets, Open, Conf0, Sets2, Sets3, Flock, Drawn3, Held. -/
import Derived.Test.YtlonbgomdabmmaaZF01
import Derived.Test.YtlonbgomdabmmaaZF00
import Derived.Laws.Bits64b
import Derived.ProofKit
import Derived.OpenShut
import Derived.ChangeOld
import Derived.Deep.Slices
import Derived.OrdersHeld
namespace Go.Proofs.Ytlonbgomdabmmaa
set_option linter.unusedSimpArgs false
set_option linter.unusedVariables false
open Go.RowKit
attribute [local go_sem] cell?_mk frozen?_mk

def oneI (x : Int) : List Value := [.int .i64 x]
theorem oneI_len (x : Int) : (oneI x).length = 1 := rfl
theorem flat_oneI (xs : List Int) : flat oneI xs = xs.map (Value.int .i64) := by
  induction xs with
  | nil => rfl
  | cons k r ih => show oneI k ++ flat oneI r = _; rw [ih]; rfl
theorem sl_ints {w : World} {g : Nat} {t : TypeId} {xs : List Int} (h : Blk w g t (ints .i64 xs)) : Sl w 1 (some ⟨g, 0, none⟩) xs.length (flat oneI xs) := by
  rw [flat_oneI]
  refine ⟨by simp, fun _ => ⟨g, 0, rfl, fun j v hj => ?_⟩⟩
  rw [Nat.zero_add]
  exact h.cellv (by rw [ints, List.getElem?_toArray]; exact hj)
theorem flat_cells (xs : List Int) : (xs.map (Value.int .i64)).flatMap (fun v => v.cells.toList) = xs.map (Value.int .i64) := by
  induction xs with
  | nil => rfl
  | cons x r ih => rw [List.map_cons, List.flatMap_cons, ih]; rfl
section
variable {P : Program} {ops : Array Oper} {rest : List Oper} {o : Oper} {a : Act} {w0 w : World} {Q : Exit → Act → World → Prop} {L : List Ent}
/-- []int64{x, y, ..}. -/
theorem Mem.ev_bsI (M : Mem w0 w L) {T e : TypeId} {zv : Value} {bytes : Nat} (E : ElemOk P T e zv 1 bytes) (hgd : o.guard = none) (n : Nat) (parts : Array (Nat × Operand)) (ho : o.op = .buildSlice T n parts)
    (xs : List Int) (hn : xs.length = n) (hn0 : 0 < n) (hn2 : n ≤ 2 ^ 24) (hx : (parts.map fun (i, x) => (i, a.eval x)).toList = ((xs.map (Value.int .i64)).zipIdx 0).map fun x => (x.2, x.1))
    (h : ∀ g w1, Mem w0 w1 (L ++ [.blk g e (ints .i64 xs)]) → wpList P ops Q rest (a.put o.dst (.slice (some ⟨g, 0, none⟩) n n)) w1) : wpList P ops Q (o :: rest) a w := by
  obtain ⟨i, hi, h1, h2, h3⟩ := E.get
  refine wpList_buildSlice hgd T e n _ ho (ints .i64 xs) i zv E.sl hi h1 (by rw [h2]; omega) (by rw [h2]; omega) ?_ ?_
  · rw [hx, h2]
    have hz : zv.cells.size = 1 := E.zs
    have := Great.fill_whole (s := 1) (by omega) (xs.map (Value.int .i64)) ((Array.range (n * 1)).map (zv.cells[· % zv.cells.size]!)) (by simp [Value.cells]) (by simp [hn])
    rw [this]
    rw [flat_cells, ints]
  · exact h _ _ (M.new (Nat.le_refl _) (Blk.new w e _) ((Below.refl _ _).alloc (Nat.le_refl _) _))
end
end Go.Proofs.Ytlonbgomdabmmaa
namespace Go.Proofs.Ytlonbgomdabmmaa
set_option linter.unusedSimpArgs false
set_option linter.unusedVariables false
open Go.RowKit

/-- A value that points to a variable of a type, and what lies there. -/
def Var (P : Program) (w : World) (ty : TypeId) (v : Value) (cs : Array Value) : Prop :=
  ∃ g, v = .pointer (some ⟨g, 0, none⟩) ∧ (loadVar ty ⟨g, 0, none⟩).run P w = .ok (.agg cs) w
theorem Blk.var {P : Program} {w : World} {g : Nat} {t : TypeId} {cs : Array Value} (hb : Blk w g t cs) {ty : TypeId} {d : TypeDesc} (hu : P.underlying ty = some d) (hd : (match d with | .struct _ | .array _ _ => true | _ => false) = true)
    (hi : (P.info? ty).map (·.size) = some cs.size) : Var P w ty (.pointer (some ⟨g, 0, none⟩)) cs := ⟨g, rfl, run_loadVar_row w g t ty cs (0, 0) d hb hu hd hi⟩
section
variable {P : Program} {fn : Func} {R : Ending → World → Prop} {tmps : Array Value} {w : World} {p q u x : Tmp} {ty ty' : TypeId} {cs cs' : Array Value}
theorem ret_ct (hr : fn.results = #[.cell p ty, .tmp u]) (hp : Var P w ty (tmps.getD p undef) cs) (h : R (.returned (.tuple #[.agg cs, tmps.getD u undef])) w) : bodyPost P fn R .ret { tmps := tmps, defers := [] } w := by
  obtain ⟨g, h1, h2⟩ := hp
  have h1' : tmps[p]?.getD undef = .pointer (some ⟨g, 0, none⟩) := by simpa using h1
  refine bodyPost_ret (v := .tuple #[.agg cs, tmps.getD u undef]) ?_ rfl h
  simp [results, hr, h1', asAddr, h2]
theorem ret_ctt (hr : fn.results = #[.cell p ty, .tmp u, .tmp x]) (hp : Var P w ty (tmps.getD p undef) cs) (h : R (.returned (.tuple #[.agg cs, tmps.getD u undef, tmps.getD x undef])) w) : bodyPost P fn R .ret { tmps := tmps, defers := [] } w := by
  obtain ⟨g, h1, h2⟩ := hp
  have h1' : tmps[p]?.getD undef = .pointer (some ⟨g, 0, none⟩) := by simpa using h1
  refine bodyPost_ret (v := .tuple #[.agg cs, tmps.getD u undef, tmps.getD x undef]) ?_ rfl h
  simp [results, hr, h1', asAddr, h2]
theorem ret_cc (hr : fn.results = #[.cell p ty, .cell q ty']) (hp : Var P w ty (tmps.getD p undef) cs) (hq : Var P w ty' (tmps.getD q undef) cs')
    (h : R (.returned (.tuple #[.agg cs, .agg cs'])) w) : bodyPost P fn R .ret { tmps := tmps, defers := [] } w := by
  obtain ⟨g, h1, h2⟩ := hp
  obtain ⟨g', h3, h4⟩ := hq
  have h1' : tmps[p]?.getD undef = .pointer (some ⟨g, 0, none⟩) := by simpa using h1
  have h3' : tmps[q]?.getD undef = .pointer (some ⟨g', 0, none⟩) := by simpa using h3
  refine bodyPost_ret (v := .tuple #[.agg cs, .agg cs']) ?_ rfl h
  simp [results, hr, h1', h3', asAddr, h2, h4]
theorem ret_cct (hr : fn.results = #[.cell p ty, .cell q ty', .tmp u]) (hp : Var P w ty (tmps.getD p undef) cs) (hq : Var P w ty' (tmps.getD q undef) cs')
    (h : R (.returned (.tuple #[.agg cs, .agg cs', tmps.getD u undef])) w) : bodyPost P fn R .ret { tmps := tmps, defers := [] } w := by
  obtain ⟨g, h1, h2⟩ := hp
  obtain ⟨g', h3, h4⟩ := hq
  have h1' : tmps[p]?.getD undef = .pointer (some ⟨g, 0, none⟩) := by simpa using h1
  have h3' : tmps[q]?.getD undef = .pointer (some ⟨g', 0, none⟩) := by simpa using h3
  refine bodyPost_ret (v := .tuple #[.agg cs, .agg cs', tmps.getD u undef]) ?_ rfl h
  simp [results, hr, h1', h3', asAddr, h2, h4]
end
end Go.Proofs.Ytlonbgomdabmmaa
namespace Go.Proofs.Ytlonbgomdabmmaa
set_option linter.unusedSimpArgs false
set_option linter.unusedVariables false
open Go.RowKit
attribute [local go_sem] cell?_mk frozen?_mk

structure Cs where
  lo : Nat
  hi : Nat
structure Cs.ok (c : Cs) : Prop where
  l : c.lo < 18446744073709551616
  h : c.hi < 18446744073709551616
def Cs.vals (c : Cs) : List Value := [.int .u64 c.lo, .int .u64 c.hi]
def Cs.cells (c : Cs) : Array Value := c.vals.toArray
theorem Cs.size (c : Cs) : c.cells.size = 2 := rfl
theorem Cs.one (c : Cs) : c.cells.all (·.oneCell') = true := by simp [Cs.cells, Cs.vals, Value.oneCell']
def Cs.z : Cs := ⟨0, 0⟩
theorem Cs.z_ok : Cs.z.ok := ⟨by decide, by decide⟩
def Cs.put (c : Cs) (n : Nat) : Cs := if n < 64 then ⟨c.lo ||| 2 ^ n, c.hi⟩ else ⟨c.lo, c.hi ||| 2 ^ (n - 64)⟩
def Cs.has (c : Cs) (n : Nat) : Bool := if n < 64 then c.lo.testBit n else c.hi.testBit (n - 64)
def setOf (ks : List Nat) : Cs := ks.foldl Cs.put Cs.z
theorem setOf_snoc (ks : List Nat) (k : Nat) : setOf (ks ++ [k]) = (setOf ks).put k := by simp [setOf]
theorem pow64 {n : Nat} (h : n < 64) : 2 ^ n < 18446744073709551616 := Nat.pow_lt_pow_right (a := 2) (by omega) h
theorem or64 {a b : Nat} (ha : a < 18446744073709551616) (hb : b < 18446744073709551616) : a ||| b < 18446744073709551616 := Nat.or_lt_two_pow (n := 64) ha hb
theorem Cs.put_ok {c : Cs} (h : c.ok) {n : Nat} (hn : n < 128) : (c.put n).ok := by
  unfold Cs.put
  split
  · rename_i h1; exact ⟨or64 h.l (pow64 h1), h.h⟩
  · exact ⟨h.l, or64 h.h (pow64 (by omega))⟩
theorem setOf_ok (ks : List Nat) (h : ∀ k ∈ ks, k < 128) : (setOf ks).ok := by
  have key : ∀ (ks : List Nat) (c : Cs), c.ok → (∀ k ∈ ks, k < 128) → (ks.foldl Cs.put c).ok := by
    intro ks
    induction ks with
    | nil => intro c hc _; exact hc
    | cons k r ih => intro c hc h; exact ih _ (Cs.put_ok hc (h k (by simp))) (fun j hj => h j (by simp [hj]))
  exact key ks _ Cs.z_ok h
theorem or_pow (a n : Nat) (ha : a < 18446744073709551616) (hn : n < 64) : bits .or .u64 (a : Int) (IntKind.u64.wrap (2 ^ n)) = ((a ||| 2 ^ n : Nat) : Int) := by
  have hp := pow64 hn
  have : IntKind.u64.wrap ((2 : Int) ^ n) = ((2 ^ n : Nat) : Int) := by
    rw [IntKind.wrap_u64]
    have : ((2 : Int) ^ n) = ((2 ^ n : Nat) : Int) := by simp
    rw [this]
    generalize 2 ^ n = m at hp ⊢
    omega
  rw [this, bits_or_u64_nat a _ ha hp]

set_option maxRecDepth 100000 in
set_option maxHeartbeats 1000000 in
theorem put_any {w0 w : World} {L : List Ent} (i : Nat) (M0 : Mem w0 w L) (b : Nat) {t : TypeId} (c : Cs) (hc : c.ok) (hL : L[i]? = some (.blk b t c.cells)) (n : Nat) (hn : n < 100) :
    Calls Try.prog 93 #[.pointer (some ⟨b, 0, none⟩), .int .i64 n] w fun e w' => e = .returned (.tuple #[]) ∧ Mem w0 w' (L.set i (.blk b t (c.put n).cells)) := by
  have M := Lib.hid M0
  have HL := Lib.hid hL
  have i0 : (0 : Int) ≤ (n : Int) := by omega
  have v0 : IntKind.i64.wrap 0 = 0 := by decide
  have v1 : IntKind.i64.wrap 1 = 1 := by decide
  clear M0 hL
  by_cases h : n < 64
  · have hq : (n : Int) / 64 = 0 := by omega
    have hr : (n : Int).tmod 64 = n := by rw [Int.tmod_eq_emod_of_nonneg i0]; omega
    have c0 := M.out.cell i HL.out (j := 0) (v := .int .u64 c.lo) rfl
    have hb := or_pow c.lo n hc.l h
    have HP := Lib.hid (show c.put n = ⟨c.lo ||| 2 ^ n, c.hi⟩ by rw [Cs.put, if_pos h])
    clear h
    go_enter Try.func93, Try.ntmps93
    go_still_tail 12, (by kernel_rfl)
    have M := Lib.hid M.out.drew
    go_wp2_with (first
      | ((with_reducible refine gate_store (x := .tmp 15) rfl ?_); go_must (refine M.out.ev_put i _ _ _ rfl rfl HL.out rfl (.int .u64 ((c.lo ||| 2 ^ n : Nat) : Int)) rfl (show 0 < c.cells.size by rw [Cs.size]; omega) sz94 rfl rfl ?_); intro wn m; have M := Lib.hid m; clear m)
      )
    refine bodyPost_end (results_none rfl _ _ _) rfl ?_
    exact ⟨rfl, by rw [HP.out]; exact M.out⟩
  · obtain ⟨j, hj⟩ : ∃ j, n = 64 + j := ⟨n - 64, by omega⟩
    have hq : (n : Int) / 64 = 1 := by omega
    have hr : (n : Int).tmod 64 = (j : Int) := by rw [Int.tmod_eq_emod_of_nonneg i0]; omega
    have j0 : (0 : Int) ≤ (j : Int) := by omega
    have hm : min j 64 = j := by omega
    have c0 := M.out.cell i HL.out (j := 1) (v := .int .u64 c.hi) rfl
    have hb := or_pow c.hi j hc.h (by omega)
    have HP := Lib.hid (show c.put n = ⟨c.lo, c.hi ||| 2 ^ j⟩ by rw [Cs.put, if_neg h, hj, Nat.add_sub_cancel_left])
    clear h hj
    go_enter Try.func93, Try.ntmps93
    go_still_tail 12, (by kernel_rfl)
    have M := Lib.hid M.out.drew
    go_wp2_with (first
      | ((with_reducible refine gate_store (x := .tmp 15) rfl ?_); go_must (refine M.out.ev_put i _ _ _ rfl rfl HL.out rfl (.int .u64 ((c.hi ||| 2 ^ j : Nat) : Int)) rfl (show 1 < c.cells.size by rw [Cs.size]; omega) sz94 rfl rfl ?_); intro wn m; have M := Lib.hid m; clear m)
      )
    refine bodyPost_end (results_none rfl _ _ _) rfl ?_
    exact ⟨rfl, by rw [HP.out]; exact M.out⟩
end Go.Proofs.Ytlonbgomdabmmaa
namespace Go.Proofs.Ytlonbgomdabmmaa
set_option linter.unusedSimpArgs false
set_option linter.unusedVariables false
open Go.ChangeShapes Go.WideShapes Go.RowKit Go.Deep

/-- The kinds of the whole numbers that a value of a type is made of, if it is made of nothing else. -/
def leavesGo (cells : TypeId → Nat) (L : TypeId → Option (List IntKind)) : List Field → Nat → Option (List IntKind)
  | [], _ => some []
  | f :: r, off => match L f.type with
    | none => none
    | some l => if f.offset = off ∧ cells f.type = l.length then (leavesGo cells L r (off + l.length)).map (l ++ ·) else none
def leaves (P : Program) : Nat → TypeId → Option (List IntKind)
  | 0, _ => none
  | d + 1, t => match P.underlying t with
    | some (.int k) => some [k]
    | some (.struct fs) => leavesGo P.cellsOf (leaves P d) fs.toList 0
    | some (.array n e) => match leaves P d e with
      | none => none
      | some l => if P.cellsOf e = l.length then some (List.replicate n l).flatten else none
    | _ => none

/-- Cells that are whole numbers of these kinds. -/
def Conf (ks : List IntKind) (cs : List Value) : Prop :=
  cs.length = ks.length ∧ ∀ (i : Nat) (k : IntKind), ks[i]? = some k → ∃ n : Int, cs[i]? = some (Value.int k n) ∧ (Lit.int k n).wf = true

theorem Conf.append {ks ks' : List IntKind} {cs : List Value} (h : Conf ks (cs.take ks.length)) (h' : Conf ks' (cs.drop ks.length)) : Conf (ks ++ ks') cs := by
  have hl := h.1
  have hl' := h'.1
  simp only [List.length_take, List.length_drop] at hl hl'
  refine ⟨by simp; omega, fun i k hk => ?_⟩
  rcases Nat.lt_or_ge i ks.length with hi | hi
  · rw [List.getElem?_append_left hi] at hk
    obtain ⟨n, h1, h2⟩ := h.2 i k hk
    rw [List.getElem?_take_of_lt hi] at h1
    exact ⟨n, h1, h2⟩
  · rw [List.getElem?_append_right hi] at hk
    obtain ⟨n, h1, h2⟩ := h'.2 _ k hk
    rw [List.getElem?_drop, show ks.length + (i - ks.length) = i by omega] at h1
    exact ⟨n, h1, h2⟩
theorem Conf.nil {cs : List Value} (h : cs.length = 0) : Conf [] cs := ⟨by simpa using h, fun i k hk => by simp at hk⟩

section
variable {H : Type} {enc : TypeId × Value → H} {P : Program} {w : World} {base : Nat} {spare : Nat → Bool} {held : Bool}
theorem leavesGo_conf {L : TypeId → Option (List IntKind)} (cs : List Value) : ∀ (fs : List Field) (off : Nat) (ks : List IntKind), leavesGo P.cellsOf L fs off = some ks →
    (∀ f ∈ fs, ∀ l, L f.type = some l → Conf l ((cs.drop f.offset).take (P.cellsOf f.type))) → Conf ks ((cs.drop off).take ks.length)
  | [], off, ks, h, _ => by
    simp only [leavesGo, Option.some.injEq] at h
    subst h
    exact Conf.nil (by simp)
  | f :: r, off, ks, h, hf => by
    simp only [leavesGo] at h
    cases hl : L f.type with
    | none => simp [hl] at h
    | some l =>
      simp only [hl] at h
      split at h
      · rename_i hc
        cases hr : leavesGo P.cellsOf L r (off + l.length) with
        | none => simp [hr] at h
        | some ks' =>
          simp only [hr, Option.map_some, Option.some.injEq] at h
          subst h
          have h1 := hf f (by simp) l hl
          rw [hc.1, hc.2] at h1
          have h2 := leavesGo_conf cs r (off + l.length) ks' hr (fun g hg => hf g (by simp [hg]))
          refine Conf.append ?_ ?_
          · rw [List.take_take, List.length_append, Nat.min_eq_left (by omega)]
            exact h1
          · rw [List.length_append, List.drop_take, List.drop_drop, show l.length + ks'.length - l.length = ks'.length by omega]
            exact h2
      · cases h
theorem replicate_conf {l : List IntKind} (cs : List Value) : ∀ (n off : Nat), (∀ i, i < n → Conf l ((cs.drop (off + i * l.length)).take l.length)) → Conf (List.replicate n l).flatten ((cs.drop off).take (n * l.length))
  | 0, off, _ => by simpa using Conf.nil (by simp)
  | n + 1, off, h => by
    rw [List.replicate_succ, List.flatten_cons]
    have h0 := h 0 (by omega)
    simp only [Nat.zero_mul, Nat.add_zero] at h0
    have h1 := replicate_conf (l := l) cs n (off + l.length) (fun i hi => by
      have := h (i + 1) (by omega)
      rwa [Nat.add_mul, Nat.one_mul, show off + (i * l.length + l.length) = off + l.length + i * l.length by omega] at this)
    refine Conf.append ?_ ?_
    · rw [List.take_take, Nat.min_eq_left (by rw [Nat.add_mul]; omega)]
      exact h0
    · rw [List.drop_take, List.drop_drop, show (n + 1) * l.length - l.length = n * l.length by rw [Nat.add_mul]; omega]
      exact h1
theorem leaves_conf : ∀ (d : Nat) (t : TypeId) (ks : List IntKind), leaves P d t = some ks → ∀ (fuel : Nat) (cs : List Value) (x : DataW H × List MemPlace), DataW.trod enc P w base spare held fuel t cs = some x → P.cellsOf t = ks.length → Conf ks cs
  | 0, t, ks, h => by simp [leaves] at h
  | d + 1, t, ks, h => by
    intro fuel cs x hx hc
    simp only [leaves] at h
    split at h
    · rename_i k ht
      simp only [Option.some.injEq] at h
      subst h
      obtain ⟨n, rfl, _, hw⟩ := DataW.trod_int ht hx
      refine ⟨rfl, fun i k' hk => ?_⟩
      have hi : i = 0 := by
        rcases Nat.eq_zero_or_pos i with h0 | h0
        · exact h0
        · rw [List.getElem?_eq_none (by simp; omega)] at hk; cases hk
      subst hi
      simp only [List.getElem?_cons_zero, Option.some.injEq] at hk
      subst hk
      exact ⟨n, rfl, hw⟩
    · rename_i fs ht
      obtain ⟨xs, n, _, _, hlen, hxl, hf⟩ := DataW.trod_struct ht hx
      have := leavesGo_conf (P := P) (L := leaves P d) cs fs.toList 0 ks h (fun f hfm l hl => by
        obtain ⟨i, hi⟩ := List.getElem?_of_mem hfm
        rw [Array.getElem?_toList] at hi
        have h1 := hf i f hi
        have hil : i < xs.length := by rw [hxl]; exact (Array.getElem?_eq_some_iff.1 hi).1
        rw [List.getElem?_eq_getElem hil] at h1
        have hcl : P.cellsOf f.type = l.length := by
          have key : ∀ (gs : List Field) (off : Nat) (ks : List IntKind), leavesGo P.cellsOf (leaves P d) gs off = some ks → f ∈ gs → P.cellsOf f.type = l.length := by
            intro gs
            induction gs with
            | nil => intro off ks _ hm; simp at hm
            | cons g r ih =>
              intro off ks hg hm
              simp only [leavesGo] at hg
              cases hlg : leaves P d g.type with
              | none => simp [hlg] at hg
              | some lg =>
                simp only [hlg] at hg
                split at hg
                · rename_i hcg
                  cases hr : leavesGo P.cellsOf (leaves P d) r (off + lg.length) with
                  | none => simp [hr] at hg
                  | some ks' =>
                    rcases List.mem_cons.1 hm with rfl | hm'
                    · rw [hl] at hlg
                      injection hlg with hlg
                      rw [hlg]
                      exact hcg.2
                    · exact ih _ _ hr hm'
                · cases hg
          exact key _ _ _ h hfm
        exact leaves_conf d f.type l hl _ _ _ h1 hcl)
      rwa [List.drop_zero, List.take_of_length_le (by omega)] at this
    · rename_i n e ht
      cases hl : leaves P d e with
      | none => simp [hl] at h
      | some l =>
        simp only [hl] at h
        split at h
        · rename_i hce
          simp only [Option.some.injEq] at h
          subst h
          obtain ⟨xs, m, _, _, hlen, hxl, hf⟩ := DataW.trod_array ht hx
          have h2 := replicate_conf (l := l) cs n 0 (fun i hi => by
            have h1 := hf i hi
            rw [List.getElem?_eq_getElem (by omega), hce] at h1
            rw [Nat.zero_add]
            exact leaves_conf d e l hl _ _ _ h1 hce)
          have hn : cs.length = n * l.length := by rw [hlen, hc]; simp
          rwa [List.drop_zero, List.take_of_length_le (by omega)] at h2
        · cases h
    · cases h
end

/-- The number in a cell. -/
def intOf' : Value → Int
  | .int _ n => n
  | _ => 0
/-- Cells that are whole numbers: their kinds, their numbers. -/
theorem Conf.nums {ks : List IntKind} {cs : List Value} (h : Conf ks cs) :
    ∃ ns : List Int, ns.length = ks.length ∧ cs = List.zipWith (fun k n => Value.int k n) ks ns ∧ ∀ (i : Nat) (k : IntKind) (n : Int), ks[i]? = some k → ns[i]? = some n → (Lit.int k n).wf = true := by
  refine ⟨cs.map intOf', by simp [h.1], ?_, ?_⟩
  · apply List.ext_getElem?
    intro i
    rcases Nat.lt_or_ge i ks.length with hi | hi
    · obtain ⟨n, h1, _⟩ := h.2 i ks[i] (List.getElem?_eq_getElem hi)
      rw [List.getElem?_zipWith, List.getElem?_eq_getElem hi, List.getElem?_map, h1]
      rfl
    · rw [List.getElem?_eq_none (by have := h.1; omega), List.getElem?_eq_none (by simp; omega)]
  · intro i k n hk hn
    obtain ⟨m, h1, h2⟩ := h.2 i k hk
    rw [List.getElem?_map, h1] at hn
    simp only [Option.map_some, intOf', Option.some.injEq] at hn
    rw [← hn]
    exact h2

section
variable {H : Type} {enc : TypeId × Value → H} {P : Program} {w : World} {base : Nat} {spare : Nat → Bool} {held : Bool}
/-- An argument that is a slice of whole numbers, or of structs of such. -/
theorem open_sl {r : Reach} {b0 : Nat} {t e : TypeId} {d0 : Nat} {ks : List IntKind} (ht : P.underlying t = some (.slice e)) (hk : leaves P d0 e = some ks) (hC : P.cellsOf e = ks.length) (hp : 0 < ks.length)
    {α : Type} (en : α → List Value) (ok : α → Prop) (hen : ∀ x, (en x).length = ks.length) (hconf : ∀ cs, Conf ks cs → ∃ x, ok x ∧ en x = cs)
    {v : Value} {d : DataW H} {p : List MemPlace} (hv : Value.okWide P w r b0 t v) (h : DataW.Trod enc P w base spare held t v d p) :
    ∃ (A : Option Addr) (c : Nat) (xs : List α), v = .slice A xs.length c ∧ xs.length ≤ c ∧ c ≤ maxLen ∧ (∀ x ∈ xs, ok x) ∧ Sl w ks.length A xs.length (flat en xs) := by
  obtain ⟨a0, len, cap, rfl⟩ := okWide_slice ht hv
  obtain ⟨fuel, hf⟩ := h
  rcases open_slice ht hf with ⟨hcs, _⟩ | ⟨a, len', cap', m, n, D, Pl, hcs, _, hl, hm, hmm, _, hi⟩
  · simp only [Value.cells, List.cons.injEq, Value.slice.injEq, and_true] at hcs
    obtain ⟨rfl, rfl, rfl⟩ := hcs
    exact ⟨none, 0, [], rfl, by simp, by unfold maxLen; omega, by simp, Sl.nil_⟩
  · simp only [Value.cells, List.cons.injEq, Value.slice.injEq, and_true] at hcs
    obtain ⟨rfl, rfl, rfl⟩ := hcs
    have hml : len ≤ m := by
      rw [hmm]
      split <;> omega
    have hel : ∀ i, i < len → ∃ x : α, ok x ∧ ∀ j v, (en x)[j]? = some v → w.cell? ((a.add (i * ks.length)).add j) = some v := by
      intro i hi'
      obtain ⟨cs', hc', hx'⟩ := hi i (by omega)
      rw [hC] at hc'
      obtain ⟨x, hx, hxe⟩ := hconf cs' (leaves_conf d0 e ks hk _ _ _ hx' hC)
      obtain ⟨_, hlen, hcell⟩ := World.cells?_some hc'
      refine ⟨x, hx, fun j v hj => ?_⟩
      rw [hxe] at hj
      rw [hcell j (by have := (List.getElem?_eq_some_iff.1 hj).1; omega), hj]
    obtain ⟨xs, hxl, hxs⟩ : ∃ xs : List α, xs.length = len ∧ ∀ (i : Nat) (x : α), xs[i]? = some x → ok x ∧ ∀ (j : Nat) (v : Value), (en x)[j]? = some v → w.cell? ((a.add (i * ks.length)).add j) = some v := by
      have key : ∀ k, k ≤ len → ∃ xs : List α, xs.length = k ∧ ∀ (i : Nat) (x : α), xs[i]? = some x → ok x ∧ ∀ (j : Nat) (v : Value), (en x)[j]? = some v → w.cell? ((a.add (i * ks.length)).add j) = some v := by
        intro k
        induction k with
        | zero => intro _; exact ⟨[], rfl, fun i x h => by simp at h⟩
        | succ k ih =>
          intro hk'
          obtain ⟨xs, h1, h2⟩ := ih (by omega)
          obtain ⟨x, h3, h4⟩ := hel k (by omega)
          refine ⟨xs ++ [x], by simp [h1], fun i y hy => ?_⟩
          rcases Nat.lt_or_ge i xs.length with hi' | hi'
          · rw [List.getElem?_append_left hi'] at hy
            exact h2 i y hy
          · rw [List.getElem?_append_right hi'] at hy
            have : i - xs.length = 0 := by
              rcases Nat.eq_zero_or_pos (i - xs.length) with h0 | h0
              · exact h0
              · rw [List.getElem?_eq_none (by simp; omega)] at hy; cases hy
            rw [this] at hy
            simp only [List.getElem?_cons_zero, Option.some.injEq] at hy
            subst hy
            obtain rfl : i = k := by omega
            exact ⟨h3, h4⟩
      exact key len (Nat.le_refl _)
    refine ⟨some a, cap, xs, by rw [hxl], by omega, hm, fun x hx => ?_, ?_⟩
    · obtain ⟨i, hi'⟩ := List.getElem?_of_mem hx
      exact (hxs i x hi').1
    · refine ⟨flat_len hen xs, fun hn => ?_⟩
      obtain ⟨x0, hx0⟩ : ∃ x, xs[0]? = some x := ⟨xs[0], List.getElem?_eq_getElem hn⟩
      have hspot : a.spot = none := by
        have hv0 : (en x0)[0]? = some ((en x0)[0]'(by rw [hen]; exact hp)) := List.getElem?_eq_getElem _
        have := (hxs 0 x0 hx0).2 0 _ hv0
        simp only [Nat.zero_mul, Addr.add, if_true] at this
        exact World.cell?_spot this
      obtain ⟨b, off, spot⟩ := a
      simp only at hspot
      subst hspot
      refine ⟨b, off, rfl, fun j v hj => ?_⟩
      have hjl : j < (flat en xs).length := (List.getElem?_eq_some_iff.1 hj).1
      rw [flat_len hen] at hjl
      have hi' : j / ks.length < xs.length := by rw [Nat.div_lt_iff_lt_mul hp]; exact hjl
      have hm' : j % ks.length < ks.length := Nat.mod_lt _ hp
      have hx : xs[j / ks.length]? = some xs[j / ks.length] := List.getElem?_eq_getElem hi'
      have hv' : (en xs[j / ks.length])[j % ks.length]? = some ((en xs[j / ks.length])[j % ks.length]'(by rw [hen]; exact hm')) := List.getElem?_eq_getElem _
      have hjj : j / ks.length * ks.length + j % ks.length = j := by rw [Nat.mul_comm]; exact Nat.div_add_mod j ks.length
      have h1 := flat_at hen hx hv'
      rw [hjj, hj] at h1
      injection h1 with h1
      have h2 := (hxs _ _ hx).2 _ _ hv'
      rw [Addr.add_mid, Addr.add_mid, Nat.add_assoc, hjj] at h2
      rw [h2, h1]
end
end Go.Proofs.Ytlonbgomdabmmaa
namespace Go.Proofs.Ytlonbgomdabmmaa
set_option linter.unusedSimpArgs false
set_option linter.unusedVariables false
open Go.ChangeShapes Go.WideShapes Go.RowKit Go.Deep

theorem Conf.cons {k : IntKind} {ks : List IntKind} {cs : List Value} (h : Conf (k :: ks) cs) : ∃ n r, cs = Value.int k n :: r ∧ (Lit.int k n).wf = true ∧ Conf ks r := by
  obtain ⟨n, h1, h2⟩ := h.2 0 k rfl
  cases cs with
  | nil => cases h1
  | cons v r =>
    simp only [List.getElem?_cons_zero, Option.some.injEq] at h1
    subst h1
    refine ⟨n, r, rfl, h2, by simpa using h.1, fun i k' hk => ?_⟩
    obtain ⟨m, h3, h4⟩ := h.2 (i + 1) k' (by simpa using hk)
    exact ⟨m, by simpa using h3, h4⟩
theorem Conf.nil_eq {cs : List Value} (h : Conf [] cs) : cs = [] := List.length_eq_zero_iff.1 (by simpa using h.1)
theorem Conf.reps {k : IntKind} {n : Nat} {ks : List IntKind} {cs : List Value} (h : Conf (List.replicate n k ++ ks) cs) :
    ∃ (xs : List Int) (r : List Value), cs = xs.map (Value.int k) ++ r ∧ xs.length = n ∧ (∀ x ∈ xs, (Lit.int k x).wf = true) ∧ Conf ks r := by
  induction n generalizing cs with
  | zero => exact ⟨[], cs, rfl, rfl, by simp, by simpa using h⟩
  | succ n ih =>
    rw [List.replicate_succ, List.cons_append] at h
    obtain ⟨x, r, rfl, hw, hr⟩ := h.cons
    obtain ⟨xs, r', rfl, hl, hx, hr'⟩ := ih hr
    refine ⟨x :: xs, r', by simp, by simp [hl], fun y hy => ?_, hr'⟩
    rcases List.mem_cons.1 hy with rfl | hy
    · exact hw
    · exact hx y hy
end Go.Proofs.Ytlonbgomdabmmaa
namespace Go.Proofs.Ytlonbgomdabmmaa
set_option linter.unusedSimpArgs false
set_option linter.unusedVariables false
open Go.RowKit
attribute [local go_sem] cell?_mk frozen?_mk

theorem and_bit (a n : Nat) (ha : a < 18446744073709551616) : bits .and .u64 ((a : Int) / 2 ^ n) 1 = if a.testBit n = true then 1 else 0 := by
  have h1 : ((a : Int) / 2 ^ n) = ((a / 2 ^ n : Nat) : Int) := by simp
  have h2 : a / 2 ^ n < 18446744073709551616 := Nat.lt_of_le_of_lt (Nat.div_le_self _ _) ha
  have h3 := bits_and_u64_nat (a / 2 ^ n) 1 h2 (by decide)
  rw [h1]
  rw [show ((1 : Nat) : Int) = 1 from rfl] at h3
  rw [h3, Nat.and_one_is_mod, Nat.testBit_eq_decide_div_mod_eq]
  generalize a / 2 ^ n = m
  by_cases h : m % 2 = 1
  · rw [h]; simp
  · have : m % 2 = 0 := by omega
    rw [this]; simp
def Cs.ks : List IntKind := [.u64, .u64]
theorem bounds_u64 {n : Int} (h : (Lit.int .u64 n).wf = true) : 0 ≤ n ∧ n ≤ 18446744073709551615 := by
  simpa [Lit.wf, IntKind.min, IntKind.max, IntKind.bits, IntKind.signed] using h
theorem Cs.of_conf (cs : List Value) (h : Conf Cs.ks cs) : ∃ c : Cs, c.ok ∧ c.vals = cs := by
  obtain ⟨a, r, rfl, w0, h⟩ := h.cons
  obtain ⟨b, r, rfl, w1, h⟩ := h.cons
  obtain rfl := h.nil_eq
  have h0 := bounds_u64 w0
  have h1 := bounds_u64 w1
  refine ⟨⟨a.toNat, b.toNat⟩, ⟨by show a.toNat < _; omega, by show b.toNat < _; omega⟩, ?_⟩
  show [Value.int .u64 (a.toNat : Int), Value.int .u64 (b.toNat : Int)] = _
  rw [Int.toNat_of_nonneg h0.1, Int.toNat_of_nonneg h1.1]
set_option maxRecDepth 100000 in
set_option maxHeartbeats 1000000 in
theorem HasCell_any (c : Cs) (hc : c.ok) (k : Nat) (hk : k < 100) (w : World) :
    Calls Try.prog 87 #[.agg c.cells, .int .i64 k] w fun e w' => e = .returned (.bool (c.has k)) ∧ Mem w w' [] := by
  have M := Lib.hid (Mem.start w)
  have i0 : (0 : Int) ≤ (k : Int) := by omega
  have v0 : IntKind.i64.wrap 0 = 0 := by decide
  have v1 : IntKind.i64.wrap 1 = 1 := by decide
  have hin : inB (k : Int) 0 99 = true := inB_iff.2 ⟨i0, by omega⟩
  have HIN := Lib.hid hin
  clear hin
  by_cases h : k < 64
  · have hq : (k : Int) / 64 = 0 := by omega
    have hr : (k : Int).tmod 64 = k := by rw [Int.tmod_eq_emod_of_nonneg i0]; omega
    have hm : min k 64 = k := by omega
    have hu : IntKind.u64.wrap (k : Int) = k := IntWalk.u64_in _ (by omega)
    have hb1 := and_bit c.lo k hc.l
    have hh : c.has k = c.lo.testBit k := by rw [Cs.has, if_pos h]
    have HH := Lib.hid hh
    clear hh h
    cases ht : c.lo.testBit k <;>
    · have HT := Lib.hid ht
      rw [ht] at hb1
      simp only [if_true, Bool.false_eq_true, if_false] at hb1
      clear ht
      go_enter Try.func87, Try.ntmps87
      go_wp2_with (first
        | ((with_reducible refine gate_dst (N := 2) rfl ?_); go_must (refine M.out.ev_new rfl (by first | (go_simp; done) | (go_simp; rfl)) ?_); intro g2 w2 m; simp only [List.cons_append, List.nil_append] at m; have M := Lib.hid m; clear m)
        | (go_at_call 41; go_must (refine (within_any _ _ _ _).mono ?_); rintro e w_ ⟨rfl, rfl⟩; rw [HIN.out]; have c0 := M.out.cell (j := 0) (v := .int .u64 c.lo) 0 rfl rfl)
        )
      go_ret
      exact ⟨ret_bool (by rw [HH.out, HT.out]), M.out.take 0⟩
  · obtain ⟨j, hj⟩ : ∃ j, k = 64 + j := ⟨k - 64, by omega⟩
    have hq : (k : Int) / 64 = 1 := by omega
    have hr : (k : Int).tmod 64 = (j : Int) := by rw [Int.tmod_eq_emod_of_nonneg i0]; omega
    have j0 : (0 : Int) ≤ (j : Int) := by omega
    have hm : min j 64 = j := by omega
    have hu : IntKind.u64.wrap (j : Int) = j := IntWalk.u64_in _ (by omega)
    have hb1 := and_bit c.hi j hc.h
    have hh : c.has k = c.hi.testBit j := by rw [Cs.has, if_neg h, hj, Nat.add_sub_cancel_left]
    have HH := Lib.hid hh
    clear hh h hj
    cases ht : c.hi.testBit j <;>
    · have HT := Lib.hid ht
      rw [ht] at hb1
      simp only [if_true, Bool.false_eq_true, if_false] at hb1
      clear ht
      go_enter Try.func87, Try.ntmps87
      go_wp2_with (first
        | ((with_reducible refine gate_dst (N := 2) rfl ?_); go_must (refine M.out.ev_new rfl (by first | (go_simp; done) | (go_simp; rfl)) ?_); intro g2 w2 m; simp only [List.cons_append, List.nil_append] at m; have M := Lib.hid m; clear m)
        | (go_at_call 41; go_must (refine (within_any _ _ _ _).mono ?_); rintro e w_ ⟨rfl, rfl⟩; rw [HIN.out]; have c0 := M.out.cell (j := 1) (v := .int .u64 c.hi) 0 rfl rfl)
        )
      go_ret
      exact ⟨ret_bool (by rw [HH.out, HT.out]), M.out.take 0⟩
def Cs.cut (c : Cs) : Cs := ⟨c.lo, c.hi &&& 68719476735⟩
def Cs.both (a b : Cs) : Cs := Cs.cut ⟨a.lo &&& b.lo, a.hi &&& b.hi⟩
theorem Cs.put_has (c : Cs) (n : Nat) {k : Nat} : (c.put n).has k = (c.has k || decide (n = k)) := by
  unfold Cs.put Cs.has
  by_cases h1 : n < 64 <;> by_cases h2 : k < 64
  · rw [if_pos h1, if_pos h2, if_pos h2, Nat.testBit_or, Nat.testBit_two_pow]
  · rw [if_pos h1, if_neg h2, if_neg h2, decide_eq_false (by omega), Bool.or_false]
  · rw [if_neg h1, if_pos h2, if_pos h2, decide_eq_false (by omega), Bool.or_false]
  · rw [if_neg h1, if_neg h2, if_neg h2, Nat.testBit_or, Nat.testBit_two_pow]
    congr 1
    apply decide_eq_decide.2
    omega
theorem setOf_has (ks : List Nat) (k : Nat) : (setOf ks).has k = ks.contains k := by
  have key : ∀ (ks : List Nat) (c : Cs), (ks.foldl Cs.put c).has k = (c.has k || ks.contains k) := by
    intro ks
    induction ks with
    | nil => intro c; simp
    | cons n r ih =>
      intro c
      rw [List.foldl_cons, ih, Cs.put_has, List.contains_cons, Bool.or_assoc]
      congr 2
      simp [eq_comm, Bool.beq_eq_decide_eq]
  rw [setOf, key]
  have : Cs.z.has k = false := by unfold Cs.has Cs.z; split <;> simp
  rw [this, Bool.false_or]
/-- The numbers of a set below a number. -/
def Cs.below (c : Cs) (n : Nat) : List Nat := (List.range n).filter c.has
def Cs.all (c : Cs) : List Nat := c.below 100
theorem Cs.below_succ (c : Cs) (n : Nat) : c.below (n + 1) = c.below n ++ if c.has n then [n] else [] := by
  simp only [Cs.below, List.range_succ, List.filter_append]
  congr 1
  cases h : c.has n <;> simp [h]
theorem Cs.below_len (c : Cs) (n : Nat) : (c.below n).length ≤ n := by
  have := List.length_filter_le c.has (List.range n)
  rwa [List.length_range] at this
end Go.Proofs.Ytlonbgomdabmmaa
namespace Go.Proofs.Ytlonbgomdabmmaa
set_option linter.unusedSimpArgs false
set_option linter.unusedVariables false
open Go.RowKit
attribute [local go_sem] cell?_mk frozen?_mk

def andn (a b : Nat) : Nat := (BitVec.ofNat 64 a &&& ~~~BitVec.ofNat 64 b).toNat
def Cs.without (a b : Cs) : Cs := Cs.cut ⟨andn a.lo b.lo, andn a.hi b.hi⟩
end Go.Proofs.Ytlonbgomdabmmaa
namespace Go.Proofs.Ytlonbgomdabmmaa
set_option linter.unusedSimpArgs false
set_option linter.unusedVariables false
open Go.RowKit
structure Flock where
  tree : Int
  birds : Int
  eats : Int
  bold : Int
  reach : Int
  taste : Int
  deriving DecidableEq
def Flock.vals (x : Flock) : List Value := [.int .i16 x.tree, .int .i16 x.birds, .int .i16 x.eats, .int .i16 x.bold, .int .i16 x.reach, .int .i8 x.taste]
theorem Flock.vl (x : Flock) : x.vals.length = 6 := rfl
theorem Flock.one (x : Flock) : x.vals.toArray.all (·.oneCell') = true := by simp [Flock.vals, Value.oneCell']
structure Flock.ok (x : Flock) : Prop where
  tree : -32768 ≤ x.tree ∧ x.tree ≤ 32767
  birds : -32768 ≤ x.birds ∧ x.birds ≤ 32767
  eats : -32768 ≤ x.eats ∧ x.eats ≤ 32767
  bold : -32768 ≤ x.bold ∧ x.bold ≤ 32767
  reach : -32768 ≤ x.reach ∧ x.reach ≤ 32767
  taste : -128 ≤ x.taste ∧ x.taste ≤ 127
def Flock.z : Flock := ⟨0, 0, 0, 0, 0, 0⟩
theorem elem_Flock : ElemOk Try.prog 33 48 (.agg Flock.z.vals.toArray) 6 12 := ⟨by kernel_rfl, by kernel_rfl, by kernel_rfl, by decide⟩
def Flock.ks : List IntKind := [.i16, .i16, .i16, .i16, .i16, .i8]
theorem Flock.of_conf (cs : List Value) (h : Conf Flock.ks cs) : ∃ x : Flock, x.ok ∧ x.vals = cs := by
  obtain ⟨e0, r, rfl, w0, h⟩ := h.cons
  obtain ⟨e1, r, rfl, w1, h⟩ := h.cons
  obtain ⟨e2, r, rfl, w2, h⟩ := h.cons
  obtain ⟨e3, r, rfl, w3, h⟩ := h.cons
  obtain ⟨e4, r, rfl, w4, h⟩ := h.cons
  obtain ⟨e5, r, rfl, w5, h⟩ := h.cons
  obtain rfl := h.nil_eq
  exact ⟨⟨e0, e1, e2, e3, e4, e5⟩, ⟨bounds_i16 w0, bounds_i16 w1, bounds_i16 w2, bounds_i16 w3, bounds_i16 w4, bounds_i8 w5⟩, rfl⟩
end Go.Proofs.Ytlonbgomdabmmaa
namespace Go.Proofs.Ytlonbgomdabmmaa
set_option linter.unusedSimpArgs false
set_option linter.unusedVariables false
open Go.RowKit

/-- A pure operation, its place told. -/
theorem takeD {P : Program} {md : Region.Mode} {ops : Array Oper} {Q : Exit → Act → World → Prop} {i : Nat} {oi : Oper} {v : Value} {fuel : Nat} {listed : Array Bool} {a : Act} {w : World} (d : Tmp) (hi : ops[i]? = some oi)
    (hs : Region.noSelect ops = true) (hf : Region.free md ops listed i = true) (hr : (Region.ready md ops listed).contains i = true)
    (hQ : ∀ c a w, Q (.panic c) (a.put oi.dst v) w → Q (.panic c) a w) (hd : oi.dst = some d) (hy : Yields P ops oi v a)
    (h : wpAny P md ops Q fuel (listed.setIfInBounds i true) (a.put (some d) v) w) : wpAny P md ops Q (fuel + 1) listed a w :=
  wpAny_take hi hs hf hr hQ hy (by rw [hd]; exact h)
end Go.Proofs.Ytlonbgomdabmmaa
namespace Go.Proofs.Ytlonbgomdabmmaa
set_option linter.unusedSimpArgs false
set_option linter.unusedVariables false
open Go.RowKit

section
variable {P : Program} {md : Region.Mode} {ops : Array Oper} {Q : Exit → Act → World → Prop} {S : World → Prop} {fuel : Nat} {listed : Array Bool} {a : Act} {w : World}
theorem takeH {i : Nat} {oi : Oper} {v : Value} (d : Tmp) (hi : ops[i]? = some oi)
    (hs : Region.noSelect ops = true) (hf : Region.free md ops listed i = true) (hr : (Region.ready md ops listed).contains i = true)
    (hQ : ∀ c a w, Q (.panic c) (a.put oi.dst v) w → Q (.panic c) a w) (hd : oi.dst = some d) (hS : S w) (hy : YieldsIf P ops S oi v a)
    (h : wpAnyH P md ops Q S fuel (listed.setIfInBounds i true) (a.put (some d) v) w) : wpAnyH P md ops Q S (fuel + 1) listed a w :=
  wpAnyH_take hi hs hf hr hQ hy hS (by rw [hd]; exact h)
theorem ylds {o : Oper} (T : TypeId) (x : Operand) (ho : o.op = .load T x) (hg : o.guard = none) {p : Addr} {v : Value} {d : TypeDesc} (hu : P.underlying T = some d) (hd : TypeDesc_row d = false)
    (hx : a.eval x = .pointer (some p)) (hc : ∀ w, S w → w.cell? p = some v) : YieldsIf P ops S o v a :=
  .inl ⟨by simp [Region.wanted, hg], fun w hS => by
    unfold execOp
    simp only [ho, hx, Sem.run_bind, Result.andThen_ok, run_get T hu hd (hc w hS), Sem.run_pure]⟩
theorem yldsW {o : Oper} (T : TypeId) (x : Operand) (ho : o.op = .load T x) (hw : Region.wanted o (yielded ops a.tmps) = true) {p : Addr} {v : Value} {d : TypeDesc} (hu : P.underlying T = some d) (hd : TypeDesc_row d = false)
    (hx : a.eval x = .pointer (some p)) (hc : ∀ w, S w → w.cell? p = some v) : YieldsIf P ops S o v a :=
  .inl ⟨hw, fun w hS => by
    unfold execOp
    simp only [ho, hx, Sem.run_bind, Result.andThen_ok, run_get T hu hd (hc w hS), Sem.run_pure]⟩
theorem yldw {o : Oper} (T : TypeId) (x : Operand) (ho : o.op = .load T x) (hg : o.guard = none) {g : Nat} {t : TypeId} {cs : Array Value} {d : TypeDesc} (hu : P.underlying T = some d)
    (hd : (match d with | .struct _ | .array _ _ => true | _ => false) = true) (hi : (P.info? T).map (·.size) = some cs.size) (hx : a.eval x = .pointer (some ⟨g, 0, none⟩)) (hb : ∀ w, S w → Blk w g t cs) : YieldsIf P ops S o (.agg cs) a :=
  .inl ⟨by simp [Region.wanted, hg], fun w hS => by
    have hagg : (isAgg T).run P w = .ok true w := by
      unfold isAgg
      rw [Sem.run_bind, run_underlying hu w]
      cases d <;> simp_all
    unfold execOp
    simp only [ho, hx, Instr.loadAt, Instr.sureAddr, Sem.run_bind, Result.andThen_ok, run_loadVar_row w g t T cs (0, 0) d (hb w hS) hu hd hi, Sem.run_pure, hagg]⟩
theorem any1H (i : Nat) {o : Oper} (hr : Region.ready md ops listed = [i]) (ho : ops[i]? = some o)
    (h : ∀ K : Act → World → Prop, (∀ a w, S w ∧ wpAnyH P md ops Q S fuel (listed.setIfInBounds i true) a w → K a w) → wpList P ops (onward K) [o] a w) : wpAnyH P md ops Q S (fuel + 1) listed a w :=
  wpAnyH_all hr (by simp) fun j hj => by
    rw [List.mem_singleton.1 hj]
    exact wpOp_onward ho (h _ fun _ _ h => h)
theorem any2H (i j : Nat) {o o' : Oper} (hr : Region.ready md ops listed = [i, j]) (ho : ops[i]? = some o) (ho' : ops[j]? = some o')
    (h : ∀ K : Act → World → Prop, (∀ a w, S w ∧ wpAnyH P md ops Q S fuel (listed.setIfInBounds i true) a w → K a w) → wpList P ops (onward K) [o] a w)
    (h' : ∀ K : Act → World → Prop, (∀ a w, S w ∧ wpAnyH P md ops Q S fuel (listed.setIfInBounds j true) a w → K a w) → wpList P ops (onward K) [o'] a w) : wpAnyH P md ops Q S (fuel + 1) listed a w :=
  wpAnyH_all hr (by simp) fun k hk => by
    rcases List.mem_cons.1 hk with rfl | hk
    · exact wpOp_onward ho (h _ fun _ _ h => h)
    · rw [List.mem_singleton.1 hk]
      exact wpOp_onward ho' (h' _ fun _ _ h => h)
theorem region_anyH {id : Nat} (S : World → Prop) (hm : P.follows .mixedOrders = true)
    (h : wpAnyH P .any ops Q S ops.size (Array.replicate ops.size false) a w.drew) : (Code.region id ops true).wp P Q a w := wp_region_held hm h
end
end Go.Proofs.Ytlonbgomdabmmaa
