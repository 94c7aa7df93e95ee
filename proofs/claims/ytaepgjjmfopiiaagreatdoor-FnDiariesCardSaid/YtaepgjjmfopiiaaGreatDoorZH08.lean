/- Texts of a proof, laid together: Open, Conf0, Plot, FieldC. -/
import Derived.ProofKit
import Derived.OpenShut
import Derived.ChangeOld
import Derived.Deep.Slices
import Derived.Test.YtaepgjjmfopiiaaGreatDoorZH01
import Derived.Test.YtaepgjjmfopiiaaGreatDoorZH00
namespace Go.Proofs.YtaepgjjmfopiiaaGreatDoor
set_option linter.unusedSimpArgs false
set_option linter.unusedVariables false
open Go.ChangeShapes Go.WideShapes Go.RowKit Go.Deep

/-- The kinds of the whole numbers that a value of a type is made of, if it is made of nothing else. -/
def leavesGo (cells : TypeId → Nat) (L : TypeId → Option (List IntKind)) : List Field → Nat → Option (List IntKind)
  | [], _ => some []
  | f :: r, off => match L f.type with
    | none => none
    | some l => if f.offset = off ∧ cells f.type = l.length then (leavesGo cells L r (off + l.length)).map (l ++ ·) else none
def leaves (P : Program) : Nat → TypeId → Option (List IntKind)
  | 0, _ => none
  | d + 1, t => match P.underlying t with
    | some (.int k) => some [k]
    | some (.struct fs) => leavesGo P.cellsOf (leaves P d) fs.toList 0
    | some (.array n e) => match leaves P d e with
      | none => none
      | some l => if P.cellsOf e = l.length then some (List.replicate n l).flatten else none
    | _ => none

/-- Cells that are whole numbers of these kinds. -/
def Conf (ks : List IntKind) (cs : List Value) : Prop :=
  cs.length = ks.length ∧ ∀ (i : Nat) (k : IntKind), ks[i]? = some k → ∃ n : Int, cs[i]? = some (Value.int k n) ∧ (Lit.int k n).wf = true

theorem Conf.append {ks ks' : List IntKind} {cs : List Value} (h : Conf ks (cs.take ks.length)) (h' : Conf ks' (cs.drop ks.length)) : Conf (ks ++ ks') cs := by
  have hl := h.1
  have hl' := h'.1
  simp only [List.length_take, List.length_drop] at hl hl'
  refine ⟨by simp; omega, fun i k hk => ?_⟩
  rcases Nat.lt_or_ge i ks.length with hi | hi
  · rw [List.getElem?_append_left hi] at hk
    obtain ⟨n, h1, h2⟩ := h.2 i k hk
    rw [List.getElem?_take_of_lt hi] at h1
    exact ⟨n, h1, h2⟩
  · rw [List.getElem?_append_right hi] at hk
    obtain ⟨n, h1, h2⟩ := h'.2 _ k hk
    rw [List.getElem?_drop, show ks.length + (i - ks.length) = i by omega] at h1
    exact ⟨n, h1, h2⟩
theorem Conf.nil {cs : List Value} (h : cs.length = 0) : Conf [] cs := ⟨by simpa using h, fun i k hk => by simp at hk⟩

section
variable {H : Type} {enc : TypeId × Value → H} {P : Program} {w : World} {base : Nat} {spare : Nat → Bool} {held : Bool}
theorem leavesGo_conf {L : TypeId → Option (List IntKind)} (cs : List Value) : ∀ (fs : List Field) (off : Nat) (ks : List IntKind), leavesGo P.cellsOf L fs off = some ks →
    (∀ f ∈ fs, ∀ l, L f.type = some l → Conf l ((cs.drop f.offset).take (P.cellsOf f.type))) → Conf ks ((cs.drop off).take ks.length)
  | [], off, ks, h, _ => by
    simp only [leavesGo, Option.some.injEq] at h
    subst h
    exact Conf.nil (by simp)
  | f :: r, off, ks, h, hf => by
    simp only [leavesGo] at h
    cases hl : L f.type with
    | none => simp [hl] at h
    | some l =>
      simp only [hl] at h
      split at h
      · rename_i hc
        cases hr : leavesGo P.cellsOf L r (off + l.length) with
        | none => simp [hr] at h
        | some ks' =>
          simp only [hr, Option.map_some, Option.some.injEq] at h
          subst h
          have h1 := hf f (by simp) l hl
          rw [hc.1, hc.2] at h1
          have h2 := leavesGo_conf cs r (off + l.length) ks' hr (fun g hg => hf g (by simp [hg]))
          refine Conf.append ?_ ?_
          · rw [List.take_take, List.length_append, Nat.min_eq_left (by omega)]
            exact h1
          · rw [List.length_append, List.drop_take, List.drop_drop, show l.length + ks'.length - l.length = ks'.length by omega]
            exact h2
      · cases h
theorem replicate_conf {l : List IntKind} (cs : List Value) : ∀ (n off : Nat), (∀ i, i < n → Conf l ((cs.drop (off + i * l.length)).take l.length)) → Conf (List.replicate n l).flatten ((cs.drop off).take (n * l.length))
  | 0, off, _ => by simpa using Conf.nil (by simp)
  | n + 1, off, h => by
    rw [List.replicate_succ, List.flatten_cons]
    have h0 := h 0 (by omega)
    simp only [Nat.zero_mul, Nat.add_zero] at h0
    have h1 := replicate_conf (l := l) cs n (off + l.length) (fun i hi => by
      have := h (i + 1) (by omega)
      rwa [Nat.add_mul, Nat.one_mul, show off + (i * l.length + l.length) = off + l.length + i * l.length by omega] at this)
    refine Conf.append ?_ ?_
    · rw [List.take_take, Nat.min_eq_left (by rw [Nat.add_mul]; omega)]
      exact h0
    · rw [List.drop_take, List.drop_drop, show (n + 1) * l.length - l.length = n * l.length by rw [Nat.add_mul]; omega]
      exact h1
theorem leaves_conf : ∀ (d : Nat) (t : TypeId) (ks : List IntKind), leaves P d t = some ks → ∀ (fuel : Nat) (cs : List Value) (x : DataW H × List MemPlace), DataW.trod enc P w base spare held fuel t cs = some x → P.cellsOf t = ks.length → Conf ks cs
  | 0, t, ks, h => by simp [leaves] at h
  | d + 1, t, ks, h => by
    intro fuel cs x hx hc
    simp only [leaves] at h
    split at h
    · rename_i k ht
      simp only [Option.some.injEq] at h
      subst h
      obtain ⟨n, rfl, _, hw⟩ := DataW.trod_int ht hx
      refine ⟨rfl, fun i k' hk => ?_⟩
      have hi : i = 0 := by
        rcases Nat.eq_zero_or_pos i with h0 | h0
        · exact h0
        · rw [List.getElem?_eq_none (by simp; omega)] at hk; cases hk
      subst hi
      simp only [List.getElem?_cons_zero, Option.some.injEq] at hk
      subst hk
      exact ⟨n, rfl, hw⟩
    · rename_i fs ht
      obtain ⟨xs, n, _, _, hlen, hxl, hf⟩ := DataW.trod_struct ht hx
      have := leavesGo_conf (P := P) (L := leaves P d) cs fs.toList 0 ks h (fun f hfm l hl => by
        obtain ⟨i, hi⟩ := List.getElem?_of_mem hfm
        rw [Array.getElem?_toList] at hi
        have h1 := hf i f hi
        have hil : i < xs.length := by rw [hxl]; exact (Array.getElem?_eq_some_iff.1 hi).1
        rw [List.getElem?_eq_getElem hil] at h1
        have hcl : P.cellsOf f.type = l.length := by
          have key : ∀ (gs : List Field) (off : Nat) (ks : List IntKind), leavesGo P.cellsOf (leaves P d) gs off = some ks → f ∈ gs → P.cellsOf f.type = l.length := by
            intro gs
            induction gs with
            | nil => intro off ks _ hm; simp at hm
            | cons g r ih =>
              intro off ks hg hm
              simp only [leavesGo] at hg
              cases hlg : leaves P d g.type with
              | none => simp [hlg] at hg
              | some lg =>
                simp only [hlg] at hg
                split at hg
                · rename_i hcg
                  cases hr : leavesGo P.cellsOf (leaves P d) r (off + lg.length) with
                  | none => simp [hr] at hg
                  | some ks' =>
                    rcases List.mem_cons.1 hm with rfl | hm'
                    · rw [hl] at hlg
                      injection hlg with hlg
                      rw [hlg]
                      exact hcg.2
                    · exact ih _ _ hr hm'
                · cases hg
          exact key _ _ _ h hfm
        exact leaves_conf d f.type l hl _ _ _ h1 hcl)
      rwa [List.drop_zero, List.take_of_length_le (by omega)] at this
    · rename_i n e ht
      cases hl : leaves P d e with
      | none => simp [hl] at h
      | some l =>
        simp only [hl] at h
        split at h
        · rename_i hce
          simp only [Option.some.injEq] at h
          subst h
          obtain ⟨xs, m, _, _, hlen, hxl, hf⟩ := DataW.trod_array ht hx
          have h2 := replicate_conf (l := l) cs n 0 (fun i hi => by
            have h1 := hf i hi
            rw [List.getElem?_eq_getElem (by omega), hce] at h1
            rw [Nat.zero_add]
            exact leaves_conf d e l hl _ _ _ h1 hce)
          have hn : cs.length = n * l.length := by rw [hlen, hc]; simp
          rwa [List.drop_zero, List.take_of_length_le (by omega)] at h2
        · cases h
    · cases h
end

/-- The number in a cell. -/
def intOf' : Value → Int
  | .int _ n => n
  | _ => 0
section
variable {H : Type} {enc : TypeId × Value → H} {P : Program} {w : World} {base : Nat} {spare : Nat → Bool} {held : Bool}
/-- An argument that is a slice of whole numbers, or of structs of such. -/
theorem open_sl {r : Reach} {b0 : Nat} {t e : TypeId} {d0 : Nat} {ks : List IntKind} (ht : P.underlying t = some (.slice e)) (hk : leaves P d0 e = some ks) (hC : P.cellsOf e = ks.length) (hp : 0 < ks.length)
    {α : Type} (en : α → List Value) (ok : α → Prop) (hen : ∀ x, (en x).length = ks.length) (hconf : ∀ cs, Conf ks cs → ∃ x, ok x ∧ en x = cs)
    {v : Value} {d : DataW H} {p : List MemPlace} (hv : Value.okWide P w r b0 t v) (h : DataW.Trod enc P w base spare held t v d p) :
    ∃ (A : Option Addr) (c : Nat) (xs : List α), v = .slice A xs.length c ∧ xs.length ≤ c ∧ c ≤ maxLen ∧ (∀ x ∈ xs, ok x) ∧ Sl w ks.length A xs.length (flat en xs) := by
  obtain ⟨a0, len, cap, rfl⟩ := okWide_slice ht hv
  obtain ⟨fuel, hf⟩ := h
  rcases open_slice ht hf with ⟨hcs, _⟩ | ⟨a, len', cap', m, n, D, Pl, hcs, _, hl, hm, hmm, _, hi⟩
  · simp only [Value.cells, List.cons.injEq, Value.slice.injEq, and_true] at hcs
    obtain ⟨rfl, rfl, rfl⟩ := hcs
    exact ⟨none, 0, [], rfl, by simp, by unfold maxLen; omega, by simp, Sl.nil_⟩
  · simp only [Value.cells, List.cons.injEq, Value.slice.injEq, and_true] at hcs
    obtain ⟨rfl, rfl, rfl⟩ := hcs
    have hml : len ≤ m := by
      rw [hmm]
      split <;> omega
    have hel : ∀ i, i < len → ∃ x : α, ok x ∧ ∀ j v, (en x)[j]? = some v → w.cell? ((a.add (i * ks.length)).add j) = some v := by
      intro i hi'
      obtain ⟨cs', hc', hx'⟩ := hi i (by omega)
      rw [hC] at hc'
      obtain ⟨x, hx, hxe⟩ := hconf cs' (leaves_conf d0 e ks hk _ _ _ hx' hC)
      obtain ⟨_, hlen, hcell⟩ := World.cells?_some hc'
      refine ⟨x, hx, fun j v hj => ?_⟩
      rw [hxe] at hj
      rw [hcell j (by have := (List.getElem?_eq_some_iff.1 hj).1; omega), hj]
    obtain ⟨xs, hxl, hxs⟩ : ∃ xs : List α, xs.length = len ∧ ∀ (i : Nat) (x : α), xs[i]? = some x → ok x ∧ ∀ (j : Nat) (v : Value), (en x)[j]? = some v → w.cell? ((a.add (i * ks.length)).add j) = some v := by
      have key : ∀ k, k ≤ len → ∃ xs : List α, xs.length = k ∧ ∀ (i : Nat) (x : α), xs[i]? = some x → ok x ∧ ∀ (j : Nat) (v : Value), (en x)[j]? = some v → w.cell? ((a.add (i * ks.length)).add j) = some v := by
        intro k
        induction k with
        | zero => intro _; exact ⟨[], rfl, fun i x h => by simp at h⟩
        | succ k ih =>
          intro hk'
          obtain ⟨xs, h1, h2⟩ := ih (by omega)
          obtain ⟨x, h3, h4⟩ := hel k (by omega)
          refine ⟨xs ++ [x], by simp [h1], fun i y hy => ?_⟩
          rcases Nat.lt_or_ge i xs.length with hi' | hi'
          · rw [List.getElem?_append_left hi'] at hy
            exact h2 i y hy
          · rw [List.getElem?_append_right hi'] at hy
            have : i - xs.length = 0 := by
              rcases Nat.eq_zero_or_pos (i - xs.length) with h0 | h0
              · exact h0
              · rw [List.getElem?_eq_none (by simp; omega)] at hy; cases hy
            rw [this] at hy
            simp only [List.getElem?_cons_zero, Option.some.injEq] at hy
            subst hy
            obtain rfl : i = k := by omega
            exact ⟨h3, h4⟩
      exact key len (Nat.le_refl _)
    refine ⟨some a, cap, xs, by rw [hxl], by omega, hm, fun x hx => ?_, ?_⟩
    · obtain ⟨i, hi'⟩ := List.getElem?_of_mem hx
      exact (hxs i x hi').1
    · refine ⟨flat_len hen xs, fun hn => ?_⟩
      obtain ⟨x0, hx0⟩ : ∃ x, xs[0]? = some x := ⟨xs[0], List.getElem?_eq_getElem hn⟩
      have hspot : a.spot = none := by
        have hv0 : (en x0)[0]? = some ((en x0)[0]'(by rw [hen]; exact hp)) := List.getElem?_eq_getElem _
        have := (hxs 0 x0 hx0).2 0 _ hv0
        simp only [Nat.zero_mul, Addr.add, if_true] at this
        exact World.cell?_spot this
      obtain ⟨b, off, spot⟩ := a
      simp only at hspot
      subst hspot
      refine ⟨b, off, rfl, fun j v hj => ?_⟩
      have hjl : j < (flat en xs).length := (List.getElem?_eq_some_iff.1 hj).1
      rw [flat_len hen] at hjl
      have hi' : j / ks.length < xs.length := by rw [Nat.div_lt_iff_lt_mul hp]; exact hjl
      have hm' : j % ks.length < ks.length := Nat.mod_lt _ hp
      have hx : xs[j / ks.length]? = some xs[j / ks.length] := List.getElem?_eq_getElem hi'
      have hv' : (en xs[j / ks.length])[j % ks.length]? = some ((en xs[j / ks.length])[j % ks.length]'(by rw [hen]; exact hm')) := List.getElem?_eq_getElem _
      have hjj : j / ks.length * ks.length + j % ks.length = j := by rw [Nat.mul_comm]; exact Nat.div_add_mod j ks.length
      have h1 := flat_at hen hx hv'
      rw [hjj, hj] at h1
      injection h1 with h1
      have h2 := (hxs _ _ hx).2 _ _ hv'
      rw [Addr.add_mid, Addr.add_mid, Nat.add_assoc, hjj] at h2
      rw [h2, h1]
end
end Go.Proofs.YtaepgjjmfopiiaaGreatDoor
namespace Go.Proofs.YtaepgjjmfopiiaaGreatDoor
set_option linter.unusedSimpArgs false
set_option linter.unusedVariables false
open Go.ChangeShapes Go.WideShapes Go.RowKit Go.Deep

theorem Conf.cons {k : IntKind} {ks : List IntKind} {cs : List Value} (h : Conf (k :: ks) cs) : ∃ n r, cs = Value.int k n :: r ∧ (Lit.int k n).wf = true ∧ Conf ks r := by
  obtain ⟨n, h1, h2⟩ := h.2 0 k rfl
  cases cs with
  | nil => cases h1
  | cons v r =>
    simp only [List.getElem?_cons_zero, Option.some.injEq] at h1
    subst h1
    refine ⟨n, r, rfl, h2, by simpa using h.1, fun i k' hk => ?_⟩
    obtain ⟨m, h3, h4⟩ := h.2 (i + 1) k' (by simpa using hk)
    exact ⟨m, by simpa using h3, h4⟩
theorem Conf.nil_eq {cs : List Value} (h : Conf [] cs) : cs = [] := List.length_eq_zero_iff.1 (by simpa using h.1)
theorem Conf.reps {k : IntKind} {n : Nat} {ks : List IntKind} {cs : List Value} (h : Conf (List.replicate n k ++ ks) cs) :
    ∃ (xs : List Int) (r : List Value), cs = xs.map (Value.int k) ++ r ∧ xs.length = n ∧ (∀ x ∈ xs, (Lit.int k x).wf = true) ∧ Conf ks r := by
  induction n generalizing cs with
  | zero => exact ⟨[], cs, rfl, rfl, by simp, by simpa using h⟩
  | succ n ih =>
    rw [List.replicate_succ, List.cons_append] at h
    obtain ⟨x, r, rfl, hw, hr⟩ := h.cons
    obtain ⟨xs, r', rfl, hl, hx, hr'⟩ := ih hr
    refine ⟨x :: xs, r', by simp, by simp [hl], fun y hy => ?_, hr'⟩
    rcases List.mem_cons.1 hy with rfl | hy
    · exact hw
    · exact hx y hy
end Go.Proofs.YtaepgjjmfopiiaaGreatDoor
namespace Go.Proofs.YtaepgjjmfopiiaaGreatDoor
set_option linter.unusedSimpArgs false
set_option linter.unusedVariables false
open Go.RowKit
structure Plot where
  seeds : Int
  ripe : Int
  keep : Int
  loss : Int
  deriving DecidableEq
def Plot.vals (x : Plot) : List Value := [.int .i16 x.seeds, .int .i16 x.ripe, .int .i16 x.keep, .int .i16 x.loss]
theorem Plot.vl (x : Plot) : x.vals.length = 4 := rfl
theorem Plot.one (x : Plot) : x.vals.toArray.all (·.oneCell') = true := by simp [Plot.vals, Value.oneCell']
structure Plot.ok (x : Plot) : Prop where
  seeds : -32768 ≤ x.seeds ∧ x.seeds ≤ 32767
  ripe : -32768 ≤ x.ripe ∧ x.ripe ≤ 32767
  keep : -32768 ≤ x.keep ∧ x.keep ≤ 32767
  loss : -32768 ≤ x.loss ∧ x.loss ≤ 32767
def Plot.z : Plot := ⟨0, 0, 0, 0⟩
theorem elem_Plot : ElemOk Tryz.prog 51 95 (.agg Plot.z.vals.toArray) 4 8 := ⟨by kernel_rfl, by kernel_rfl, by kernel_rfl, by decide⟩
def Plot.ks : List IntKind := [.i16, .i16, .i16, .i16]
theorem Plot.of_conf (cs : List Value) (h : Conf Plot.ks cs) : ∃ x : Plot, x.ok ∧ x.vals = cs := by
  obtain ⟨e0, r, rfl, w0, h⟩ := h.cons
  obtain ⟨e1, r, rfl, w1, h⟩ := h.cons
  obtain ⟨e2, r, rfl, w2, h⟩ := h.cons
  obtain ⟨e3, r, rfl, w3, h⟩ := h.cons
  obtain rfl := h.nil_eq
  exact ⟨⟨e0, e1, e2, e3⟩, ⟨bounds_i16 w0, bounds_i16 w1, bounds_i16 w2, bounds_i16 w3⟩, rfl⟩
end Go.Proofs.YtaepgjjmfopiiaaGreatDoor
namespace Go.Proofs.YtaepgjjmfopiiaaGreatDoor
set_option linter.unusedSimpArgs false
set_option linter.unusedVariables false
open Go.RowKit
attribute [local go_sem] cell?_mk frozen?_mk

def okCode (a b : Bool) : Int := if a = true then if b = true then 0 else 2 else 1
set_option maxRecDepth 100000 in
set_option maxHeartbeats 2000000 in
theorem fieldCode_any (g : Nat) {t : TypeId} (F : Fld) (hF : F.ok) (f : FuncId) (caps : Array Value) (p : Bool) (w : World) (hb : Blk w g t F.cells)
    (HF : ∀ (vs : Array Value) (w : World), Sem.run Tryz.prog (callFunc f vs) w = Result.ok (Next.enter f vs) w)
    (H : ∀ w1, Mem w w1 [] → Calls Tryz.prog f caps w1 fun e w' => e = .returned (.bool p) ∧ Mem w1 w' []) :
    Calls Tryz.prog 49 #[.pointer (some ⟨g, 0, none⟩), .func (.func f) #[] caps] w fun e w' => e = .returned (.int .i64 (okCode F.valid p)) ∧ Mem w w' [] := by
  have M := Lib.hid (Mem.start w)
  have HB := Lib.hid hb
  have HH := Lib.hid H
  have S1 := Lib.hid (Fld.size hF.toLen)
  clear hb H
  cases hv : F.valid
  · have HV := Lib.hid hv
    clear hv
    go_enter Tryz.func49, Tryz.ntmps49
    go_wp2_with (first
      | ((with_reducible refine gate_dst (N := 8) rfl ?_); go_must (refine M.out.ev_lda _ _ rfl rfl HB.out Tryz.underlying29 rfl (by rw [S1.out]; exact sz29) rfl ?_))
      | (go_at_call 15; go_must (refine (ValidField_any F hF _).mono ?_); rintro e w_ ⟨rfl, N_⟩; have m := M.out.join N_; clear N_; simp only [List.cons_append, List.nil_append, List.append_nil] at m; have M := Lib.hid m; clear m; rw [HV.out])
      )
    go_ret
    exact ⟨rfl, M.out⟩
  · have HV := Lib.hid hv
    clear hv
    cases p <;>
    · go_enter Tryz.func49, Tryz.ntmps49
      go_wp2_with (first
        | ((with_reducible refine gate_dst (N := 8) rfl ?_); go_must (refine M.out.ev_lda _ _ rfl rfl HB.out Tryz.underlying29 rfl (by rw [S1.out]; exact sz29) rfl ?_))
        | (go_at_call 15; go_must (refine (ValidField_any F hF _).mono ?_); rintro e w_ ⟨rfl, N_⟩; have m := M.out.join N_; clear N_; simp only [List.cons_append, List.nil_append, List.append_nil] at m; have M := Lib.hid m; clear m; rw [HV.out])
        | (refine (HH.out _ M.out).mono ?_; rintro e w_ ⟨rfl, N_⟩; have m := M.out.join N_; clear N_; simp only [List.cons_append, List.nil_append, List.append_nil] at m; have M := Lib.hid m; clear m)
        )
      go_ret
      exact ⟨rfl, M.out⟩
end Go.Proofs.YtaepgjjmfopiiaaGreatDoor
