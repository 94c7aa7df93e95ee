/- Texts of a proof, laid together: Base, Grow, Cells, Rets, Drawn, Sets, Open, Conf0. -/
import Derived.Test.YtjkclggdaafmaaaZC01
import Derived.Great.BuildSlice
import Derived.Laws.OwnMore
import Derived.Test.YtjkclggdaafmaaaZC00
import Derived.Laws.Bits64b
import Derived.ProofKit
import Derived.OpenShut
import Derived.ChangeOld
import Derived.Deep.Slices
namespace Go.Proofs.Ytjkclggdaafmaaa
set_option linter.unusedSimpArgs false
set_option linter.unusedVariables false
open Go.RowKit

/-- Whether a field has a cell. -/
def Fld.has (F : Fld) (c : Int) : Bool := inB c 0 99 && (decide (c % 10 < F.wide) && decide (c / 10 < F.high))
theorem Fld.has_iff {F : Fld} {c : Int} : F.has c = true ↔ (0 ≤ c ∧ c ≤ 99) ∧ c % 10 < F.wide ∧ c / 10 < F.high := by
  simp [Fld.has, inB_iff]
/-- Whether one cell of a field is as it must be. -/
def Fld.okAt (F : Fld) (k : Nat) : Bool :=
  decide (0 ≤ F.kind k ∧ F.kind k ≤ 3 ∧ 0 ≤ F.seed k ∧ F.seed k ≤ 1000 ∧ (F.kind k ≠ 0 → F.seed k = 0) ∧ (F.has k = false → F.kind k = 0 ∧ F.seed k = 0))
def Fld.valid (F : Fld) : Bool := inB F.wide 1 10 && (inB F.high 1 10 && (List.range 100).all F.okAt)
theorem Fld.valid_of {F : Fld} (h1 : inB F.wide 1 10 = true) (h2 : inB F.high 1 10 = true) (h : ∀ j, j < 100 → F.okAt j = true) : F.valid = true := by
  simp only [Fld.valid, h1, h2, Bool.true_and, List.all_eq_true, List.mem_range]
  exact h
theorem Fld.not_valid {F : Fld} {k : Nat} (hk : k < 100) (h : F.okAt k = false) : F.valid = false := by
  rw [← Bool.not_eq_true]
  intro hv
  simp only [Fld.valid, Bool.and_eq_true, List.all_eq_true, List.mem_range] at hv
  rw [hv.2.2 k hk] at h
  cases h

theorem all_succ {p : Nat → Bool} {k : Nat} (h : ∀ j, j < k → p j = true) (hk : p k = true) : ∀ j, j < k + 1 → p j = true := fun j hj => by
  rcases Nat.lt_or_ge j k with h1 | h1
  · exact h j h1
  · obtain rfl : j = k := by omega
    exact hk

set_option maxRecDepth 100000 in
set_option maxHeartbeats 400000 in
theorem within_any (n lo hi : Int) (w : World) :
    Calls Try.prog 42 #[.int .i64 n, .int .i64 lo, .int .i64 hi] w fun e w' => e = .returned (.bool (inB n lo hi)) ∧ w = w' := by
  go_enter Try.func42, Try.ntmps42
  go_wp2
  · go_ret
    exact ⟨ret_bool (by simp [inB, *]), rfl⟩
  · go_ret
    exact ⟨ret_bool (by simp [inB]; omega), rfl⟩
set_option maxRecDepth 100000 in
set_option maxHeartbeats 400000 in
theorem l00In_any (n lo hi : Int) (w : World) :
    Calls Try.prog 32 #[.int .i64 n, .int .i64 lo, .int .i64 hi] w fun e w' => e = .returned (.bool (inB n lo hi)) ∧ w = w' := by
  go_enter Try.func32, Try.ntmps32
  go_wp2
  · go_ret
    exact ⟨ret_bool (by simp [inB, *]), rfl⟩
  · go_ret
    exact ⟨ret_bool (by simp [inB]; omega), rfl⟩
set_option maxRecDepth 100000 in
set_option maxHeartbeats 400000 in
theorem l01Kind_any (n : Int) (w : World) :
    Calls Try.prog 103 #[.int .i64 n] w fun e w' => e = .returned (.bool (inB n 0 3)) ∧ w = w' := by
  go_enter Try.func103, Try.ntmps103
  go_wp2_with (first
    | (go_at_call 32; go_must (refine (l00In_any _ _ _ _).mono ?_); rintro e w_ ⟨rfl, rfl⟩)
    )
  go_ret
  exact ⟨rfl, rfl⟩
set_option maxRecDepth 100000 in
set_option maxHeartbeats 400000 in
theorem l01Seeds_any (n : Int) (w : World) :
    Calls Try.prog 104 #[.int .i64 n] w fun e w' => e = .returned (.bool (inB n 0 1000)) ∧ w = w' := by
  go_enter Try.func104, Try.ntmps104
  go_wp2_with (first
    | (go_at_call 32; go_must (refine (l00In_any _ _ _ _).mono ?_); rintro e w_ ⟨rfl, rfl⟩)
    )
  go_ret
  exact ⟨rfl, rfl⟩

set_option maxRecDepth 100000 in
set_option maxHeartbeats 400000 in
theorem has_any (b : Nat) {t : TypeId} (F : Fld) (hF : F.ok) (c : Int) (w : World) (hb : Blk w b t F.cells) :
    Calls Try.prog 67 #[.pointer (some ⟨b, 0, none⟩), .int .i64 c] w fun e w' => e = .returned (.bool (F.has c)) ∧ w = w' := by
  have h0 := hb.cellv F.cell0
  have h1 := hb.cellv F.cell1
  have a0 := hF.w0
  have a1 := hF.w1
  have a2 := hF.h0
  have a3 := hF.h1
  clear hb hF
  cases hc : inB c 0 99
  · have HC := Lib.hid hc
    clear hc
    go_enter Try.func67, Try.ntmps67
    go_wp2_with (go_at_call 42; refine (within_any _ _ _ _).mono ?_; rintro e w' ⟨rfl, rfl⟩; rw [HC.out])
    go_ret
    exact ⟨ret_bool (by simp [Fld.has, HC.out]), rfl⟩
  · have HC := Lib.hid hc
    have hc2 := inB_iff.1 hc
    have b0 := hc2.1
    have b1 := hc2.2
    clear hc hc2
    go_enter Try.func67, Try.ntmps67
    go_wp2_with (go_at_call 42; refine (within_any _ _ _ _).mono ?_; rintro e w' ⟨rfl, rfl⟩; rw [HC.out])
    · have hw : c % 10 < F.wide := by assumption
      go_ret
      exact ⟨ret_bool (by simp [Fld.has, HC.out, hw]), rfl⟩
    · have hw : F.wide ≤ c % 10 := by assumption
      go_ret
      exact ⟨ret_bool (by simp [Fld.has, HC.out]; omega), rfl⟩
set_option maxRecDepth 100000 in
set_option maxHeartbeats 400000 in
theorem l01Is_any (b : Nat) {t : TypeId} (F : Fld) (hF : F.ok) (c : Int) (w : World) (hb : Blk w b t F.cells) :
    Calls Try.prog 92 #[.pointer (some ⟨b, 0, none⟩), .int .i64 c] w fun e w' => e = .returned (.bool (F.has c)) ∧ w = w' := by
  have h0 := hb.cellv F.cell0
  have h1 := hb.cellv F.cell1
  have a0 := hF.w0
  have a1 := hF.w1
  have a2 := hF.h0
  have a3 := hF.h1
  clear hb hF
  cases hc : inB c 0 99
  · have HC := Lib.hid hc
    clear hc
    go_enter Try.func92, Try.ntmps92
    go_wp2_with (go_at_call 32; refine (l00In_any _ _ _ _).mono ?_; rintro e w' ⟨rfl, rfl⟩; rw [HC.out])
    go_ret
    exact ⟨ret_bool (by simp [Fld.has, HC.out]), rfl⟩
  · have HC := Lib.hid hc
    have hc2 := inB_iff.1 hc
    have b0 := hc2.1
    have b1 := hc2.2
    clear hc hc2
    go_enter Try.func92, Try.ntmps92
    go_wp2_with (go_at_call 32; refine (l00In_any _ _ _ _).mono ?_; rintro e w' ⟨rfl, rfl⟩; rw [HC.out])
    · have hw : c % 10 < F.wide := by assumption
      go_ret
      exact ⟨ret_bool (by simp [Fld.has, HC.out, hw]), rfl⟩
    · have hw : F.wide ≤ c % 10 := by assumption
      go_ret
      exact ⟨ret_bool (by simp [Fld.has, HC.out]; omega), rfl⟩
set_option maxRecDepth 100000 in
set_option maxHeartbeats 1000000 in
theorem l01Ok_any (b : Nat) {t : TypeId} (F : Fld) (hF : F.ok) (w : World) (hb : Blk w b t F.cells) :
    Calls Try.prog 91 #[.pointer (some ⟨b, 0, none⟩)] w fun e w' => e = .returned (.bool F.valid) ∧ w = w' := by
  have h0 := hb.cellv F.cell0
  have h1 := hb.cellv F.cell1
  have a0 := hF.w0
  have a1 := hF.w1
  have a2 := hF.h0
  have a3 := hF.h1
  have HB := Lib.hid hb
  have HF := Lib.hid hF
  clear hb hF
  cases hw : inB F.wide 1 10
  · have HW := Lib.hid hw
    clear hw
    go_enter Try.func91, Try.ntmps91
    go_wp2_with (go_at_call 32; refine (l00In_any _ _ _ _).mono ?_; rintro e w' ⟨rfl, rfl⟩; rw [HW.out])
    go_ret
    exact ⟨ret_bool (by simp [Fld.valid, HW.out]), rfl⟩
  have HW := Lib.hid hw
  clear hw
  cases hh : inB F.high 1 10
  · have HH := Lib.hid hh
    clear hh
    go_enter Try.func91, Try.ntmps91
    go_wp2_with (go_at_call 32; refine (l00In_any _ _ _ _).mono ?_; rintro e w' ⟨rfl, rfl⟩; first | rw [HW.out] | rw [HH.out])
    go_ret
    exact ⟨ret_bool (by simp [Fld.valid, HH.out]), rfl⟩
  have HH := Lib.hid hh
  clear hh
  go_enter Try.func91, Try.ntmps91
  go_wp2_with (go_at_call 32; refine (l00In_any _ _ _ _).mono ?_; rintro e w' ⟨rfl, rfl⟩; first | rw [HW.out] | rw [HH.out])
  go_loop [3] (fun v => ∃ k : Nat, k ≤ 100 ∧ v = .int .i64 k ∧ ∀ j, j < k → F.okAt j = true) (fun v => 100 - (intOf v).toNat)
  case atStart => exact ⟨0, by omega, rfl, fun j h => by omega⟩
  case round =>
    obtain ⟨k, hk, rfl, ho⟩ := hrel
    have HO := Lib.hid ho
    clear ho
    by_cases hlt : k < 100
    · have hk1 := HB.out.cellv (Fld.cellK HF.out.toLen hlt)
      have hk2 := HB.out.cellv (Fld.cellS HF.out.toLen hlt)
      have b0 := (HF.out.kb k).1
      have b1 := (HF.out.kb k).2
      have b2 := (HF.out.sb k).1
      have b3 := (HF.out.sb k).2
      go_wp2_with (first
        | (go_at_call 103; go_must (refine (l01Kind_any _ _).mono ?_); rintro e w_ ⟨rfl, rfl⟩)
        | (go_at_call 104; go_must (refine (l01Seeds_any _ _).mono ?_); rintro e w_ ⟨rfl, rfl⟩)
        | (go_at_call 92; go_must (refine (l01Is_any b F HF.out _ _ HB.out).mono ?_); rintro e w_ ⟨rfl, rfl⟩)
        )
      all_goals first
        | (go_ret
           refine ⟨ret_bool (Fld.not_valid hlt ?_).symm, rfl⟩
           rw [← Bool.not_eq_true]
           simp only [Fld.okAt, decide_eq_true_eq]
           intro hq
           clear hk1 hk2
           simp_all [inB]
           done)
        | (refine ⟨⟨k + 1, by omega, by go_num, all_succ HO.out ?_⟩, by simp [intOf]; omega⟩
           simp only [Fld.okAt, decide_eq_true_eq]
           clear hk1 hk2
           simp_all [inB]
           done)
    · obtain rfl : k = 100 := by omega
      go_wp2
      go_ret
      exact ⟨ret_bool (Fld.valid_of HW.out HH.out HO.out).symm, rfl⟩

set_option maxRecDepth 100000 in
set_option maxHeartbeats 1000000 in
theorem ValidField_any (F : Fld) (hF : F.ok) (w : World) :
    Calls Try.prog 90 #[.agg F.cells] w fun e w' => e = .returned (.bool F.valid) ∧ Mem w w' [] := by
  have M := Lib.hid (Mem.start w)
  have S1 := Lib.hid (Fld.size hF.toLen)
  have c0 := F.cell0
  have c1 := F.cell1
  have a0 := hF.w0
  have a1 := hF.w1
  have a2 := hF.h0
  have a3 := hF.h1
  have HF := Lib.hid hF
  clear hF
  cases hw : inB F.wide 1 10
  · have HW := Lib.hid hw
    clear hw
    go_enter Try.func90, Try.ntmps90
    go_wp2_with (first
      | ((with_reducible refine gate_dst (N := 1) rfl ?_); go_must (refine M.out.ev_new rfl (by first | (go_simp; done) | (go_simp; rfl)) ?_); intro g1 w1 m; simp only [List.cons_append, List.nil_append] at m; have M := Lib.hid m; clear m; try have q0_1 := M.out.cell (j := 1) 0 rfl (by first | assumption | rfl))
      | ((with_reducible refine gate_dst (N := 7) rfl ?_); go_must (refine M.out.ev_ld 0 _ _ rfl rfl rfl Try.underlying22 rfl rfl (by first | assumption | rfl) ?_))
      | ((with_reducible refine gate_dst (N := 24) rfl ?_); go_must (refine M.out.ev_ld 0 _ _ rfl rfl rfl Try.underlying5 rfl rfl (by first | assumption | rfl) ?_))
      | ((with_reducible refine gate_dst (N := 28) rfl ?_); go_must (refine M.out.ev_ld 0 _ _ rfl rfl rfl Try.underlying24 rfl rfl (by first | assumption | rfl) ?_))
      | (go_at_call 42; refine (within_any _ _ _ _).mono ?_; rintro e w' ⟨rfl, rfl⟩; rw [HW.out]))
    go_ret
    exact ⟨ret_bool (by simp [Fld.valid, HW.out]), M.out.take 0⟩
  have HW := Lib.hid hw
  clear hw
  cases hh : inB F.high 1 10
  · have HH := Lib.hid hh
    clear hh
    go_enter Try.func90, Try.ntmps90
    go_wp2_with (first
      | ((with_reducible refine gate_dst (N := 13) rfl ?_); have c1b := M.out.cell 0 rfl c1; fail)
      | ((with_reducible refine gate_dst (N := 1) rfl ?_); go_must (refine M.out.ev_new rfl (by first | (go_simp; done) | (go_simp; rfl)) ?_); intro g1 w1 m; simp only [List.cons_append, List.nil_append] at m; have M := Lib.hid m; clear m; try have q0_1 := M.out.cell (j := 1) 0 rfl (by first | assumption | rfl))
      | ((with_reducible refine gate_dst (N := 7) rfl ?_); go_must (refine M.out.ev_ld 0 _ _ rfl rfl rfl Try.underlying22 rfl rfl (by first | assumption | rfl) ?_))
      | ((with_reducible refine gate_dst (N := 24) rfl ?_); go_must (refine M.out.ev_ld 0 _ _ rfl rfl rfl Try.underlying5 rfl rfl (by first | assumption | rfl) ?_))
      | ((with_reducible refine gate_dst (N := 28) rfl ?_); go_must (refine M.out.ev_ld 0 _ _ rfl rfl rfl Try.underlying24 rfl rfl (by first | assumption | rfl) ?_))
      | (go_at_call 42; refine (within_any _ _ _ _).mono ?_; rintro e w' ⟨rfl, rfl⟩; first | rw [HW.out]; have c1b := M.out.cell 0 rfl c1 | rw [HH.out]))
    go_ret
    exact ⟨ret_bool (by simp [Fld.valid, HH.out]), M.out.take 0⟩
  have HH := Lib.hid hh
  clear hh
  go_enter Try.func90, Try.ntmps90
  go_wp2_with (first
    | ((with_reducible refine gate_dst (N := 1) rfl ?_); go_must (refine M.out.ev_new rfl (by first | (go_simp; done) | (go_simp; rfl)) ?_); intro g1 w1 m; simp only [List.cons_append, List.nil_append] at m; have M := Lib.hid m; clear m; try have q0_1 := M.out.cell (j := 1) 0 rfl (by first | assumption | rfl))
    | ((with_reducible refine gate_dst (N := 7) rfl ?_); go_must (refine M.out.ev_ld 0 _ _ rfl rfl rfl Try.underlying22 rfl rfl (by first | assumption | rfl) ?_))
    | ((with_reducible refine gate_dst (N := 24) rfl ?_); go_must (refine M.out.ev_ld 0 _ _ rfl rfl rfl Try.underlying5 rfl rfl (by first | assumption | rfl) ?_))
    | ((with_reducible refine gate_dst (N := 28) rfl ?_); go_must (refine M.out.ev_ld 0 _ _ rfl rfl rfl Try.underlying24 rfl rfl (by first | assumption | rfl) ?_))
    | (go_at_call 42; refine (within_any _ _ _ _).mono ?_; rintro e w' ⟨rfl, rfl⟩; first | rw [HW.out]; have c1b := M.out.cell 0 rfl c1 | rw [HH.out]))
  go_loopw [18] (fun v wr => ∃ k : Nat, k ≤ 100 ∧ v = .int .i64 k ∧ (∀ j, j < k → F.okAt j = true) ∧ Mem w wr [.blk g1 35 F.cells]) (fun v _ => 100 - (intOf v).toNat)
  case atStart => exact ⟨0, by omega, rfl, fun j h => by omega, M.out⟩
  case round =>
    clear M c1b
    obtain ⟨k, hk, rfl, ho, m⟩ := hrel
    have HO := Lib.hid ho
    have M := Lib.hid m
    clear ho m
    by_cases hlt : k < 100
    · have hk1 := M.out.cell 0 rfl (Fld.cellK HF.out.toLen hlt)
      have hk2 := M.out.cell 0 rfl (Fld.cellS HF.out.toLen hlt)
      have b0 := (HF.out.kb k).1
      have b1 := (HF.out.kb k).2
      have b2 := (HF.out.sb k).1
      have b3 := (HF.out.sb k).2
      have i0 : (0 : Int) ≤ (k : Int) := by omega
      have i1 : (k : Int) < 100 := by omega
      clear c0 c1
      go_wp2_with fail
      go_quiet (fail)
      have M := Lib.hid (M.out.drewN nq)
      go_wp2_with (first
        | (go_at_call 42; go_must (refine (within_any _ _ _ _).mono ?_); rintro e w_ ⟨rfl, rfl⟩)
        | (go_at_call 67; go_must (refine (has_any g1 F HF.out _ _ (M.out.blk 0 rfl)).mono ?_); rintro e w_ ⟨rfl, rfl⟩)
        )
      all_goals first
        | (go_ret
           refine ⟨ret_bool (Fld.not_valid hlt ?_).symm, M.out.take 0⟩
           rw [← Bool.not_eq_true]
           simp only [Fld.okAt, decide_eq_true_eq]
           intro hq
           clear hk1 hk2
           first | (simp_all [inB]; done) | (simp_all [inB]; omega))
        | (refine ⟨⟨k + 1, by omega, by go_num, all_succ HO.out ?_, M.out⟩, by simp [intOf]; omega⟩
           simp only [Fld.okAt, decide_eq_true_eq]
           clear hk1 hk2
           first | (simp_all [inB]; done) | (simp_all [inB]; omega))
    · obtain rfl : k = 100 := by omega
      go_wp2
      go_ret
      exact ⟨ret_bool (Fld.valid_of HW.out HH.out HO.out).symm, M.out.take 0⟩
end Go.Proofs.Ytjkclggdaafmaaa
namespace Go.Proofs.Ytjkclggdaafmaaa
set_option linter.unusedSimpArgs false
set_option linter.unusedVariables false
open Go.RowKit

section
variable {P : Program} {ops : Array Oper} {rest : List Oper} {o : Oper} {a : Act} {w0 w : World} {Q : Exit → Act → World → Prop} {L : List Ent}
theorem set_same {α : Type} {L : List α} {i : Nat} {x : α} (h : L[i]? = some x) : L.set i x = L := by
  apply List.ext_getElem?
  intro j
  rw [List.getElem?_set]
  split
  · rename_i hij
    subst hij
    rw [if_pos (List.getElem?_eq_some_iff.1 h).1, h]
  · rfl
/-- One cell of one element exchanged. -/
theorem flat_put {α : Type} {enc : α → List Value} {sz : Nat} (h : ∀ x, (enc x).length = sz) {j : Nat} (hj : j < sz) {v : Value} : ∀ (xs : List α) (k : Nat) (x y : α), xs[k]? = some x → enc y = (enc x).set j v → (flat enc xs).set (k * sz + j) v = flat enc (xs.set k y)
  | [], k, x, y, hk, _ => by simp at hk
  | z :: r, 0, x, y, hk, hy => by
    simp only [List.getElem?_cons_zero, Option.some.injEq] at hk
    subst hk
    simp only [flat, List.flatMap_cons, List.set_cons_zero, Nat.zero_mul, Nat.zero_add]
    rw [List.set_append, if_pos (by rw [h]; exact hj), hy]
  | z :: r, k + 1, x, y, hk, hy => by
    simp only [List.getElem?_cons_succ] at hk
    have := flat_put h hj r k x y hk hy
    simp only [flat, List.flatMap_cons, List.set_cons_succ] at this ⊢
    rw [List.set_append, if_neg (by rw [h, Nat.add_mul]; omega), h, ← this]
    congr 2
    rw [Nat.add_mul]
    omega
theorem run_bs0 {T e : TypeId} {zv : Value} {sz bytes : Nat} (E : ElemOk P T e zv sz bytes) (w : World) :
    (Instr.buildSlice T 0 #[]).run P w = .ok (.slice (some ⟨w.heap.size, 0, none⟩) 0 0) (w.alloc (.cells #[] e)) := by
  obtain ⟨i, hi, h1, h2, h3⟩ := E.get
  have h0 : Array.range 0 = #[] := by simp
  simp [Instr.buildSlice, run_underlying E.sl, sizeOf, typeInfo, hi, newRow, Instr.fill, h0]
theorem Mem.row0 (M : Mem w0 w L) (e : TypeId) (sz : Nat) : Mem w0 (w.alloc (.cells #[] e)) (L ++ [.row (.slice (some ⟨w.heap.size, 0, none⟩) 0 0) e sz 0 []]) :=
  M.push _ ((Below.refl _ _).alloc (Nat.le_refl _) _) ⟨by simp, .inr ⟨w.heap.size, 0, #[], rfl, M.size, heap_alloc_new w _, Nat.le_refl _, by unfold maxLen; omega, by simp, by simp⟩⟩ (fun k hk => by
    simp only [Ent.place, Value.ownBlock, Option.some.injEq] at hk; omega)
/-- []T{}. -/
theorem Mem.ev_bs0 (M : Mem w0 w L) {T e : TypeId} {zv : Value} {sz bytes : Nat} (E : ElemOk P T e zv sz bytes) (hgd : o.guard = none) (ho : o.op = .buildSlice T 0 #[])
    (h : ∀ g w1, Mem w0 w1 (L ++ [.row (.slice (some ⟨g, 0, none⟩) 0 0) e sz 0 []]) → wpList P ops Q rest (a.put o.dst (.slice (some ⟨g, 0, none⟩) 0 0)) w1) : wpList P ops Q (o :: rest) a w := by
  refine wpList_plain hgd fun K hK => ?_
  unfold Oper.wp execOp
  have hm : (#[] : Array (Nat × Operand)).map (fun (i, x) => (i, a.eval x)) = #[] := by simp
  simp only [ho, hm, Sem.run_bind, run_bs0 E, Result.andThen_ok]
  exact hK _ _ (h _ _ (M.row0 e sz))
/-- []T{x}. -/
theorem Mem.ev_bs1 (M : Mem w0 w L) {T e : TypeId} {zv : Value} {sz bytes : Nat} (E : ElemOk P T e zv sz bytes) (hgd : o.guard = none) (x : Operand) (ho : o.op = .buildSlice T 1 #[(0, x)])
    (cs : Array Value) (hx : (a.eval x).cells = cs) (hl : cs.size = sz) (hsz : sz ≤ 2 ^ 24)
    (h : ∀ g w1, Mem w0 w1 (L ++ [.blk g e cs]) → wpList P ops Q rest (a.put o.dst (.slice (some ⟨g, 0, none⟩) 1 1)) w1) : wpList P ops Q (o :: rest) a w := by
  obtain ⟨i, hi, h1, h2, h3⟩ := E.get
  have hp := E.pos
  refine wpList_buildSlice hgd T e 1 _ ho cs i zv E.sl hi h1 (by rw [h2]; omega) (by rw [h2]; omega) ?_ ?_
  · have hc : (a.eval x).cells.size = i.size := by rw [hx, hl, h2]
    have hz : zv.cells.size = i.size := by rw [E.zs, h2]
    have := Great.fill_whole (s := i.size) (by omega) [a.eval x] ((Array.range (1 * i.size)).map (zv.cells[· % zv.cells.size]!)) (by simpa using hc) (by simp)
    simpa [hx] using this
  · exact h _ _ (M.new (Nat.le_refl _) (Blk.new w e cs) ((Below.refl _ _).alloc (Nat.le_refl _) _))
/-- append of a slice that lies somewhere, or is none. -/
theorem Mem.ev_appends (M : Mem w0 w L) (i : Nat) {T e : TypeId} {zv : Value} {sz bytes : Nat} (E : ElemOk P T e zv sz bytes) (hgd : o.guard = none) (s x : Operand)
    (ho : o.op = .call { callee := .builtin .append, args := #[s, x], argTypes := #[T, T] }) {v : Value} {n : Nat} {cs : List Value} (hL : L[i]? = some (.row v e sz n cs)) (hs : a.eval s = v)
    {A : Option Addr} {m c : Nat} (hx : a.eval x = .slice A m c) {news : List Value} (hN : Sl w sz A m news) (hA : A = none → c = 0) (hmc : m ≤ c) (h1 : ∀ u ∈ news, u.oneCell' = true)
    (hbytes : (n + m) * bytes ≤ 140737488355328) (hb0 : 0 < bytes)
    (h : ∀ v' w1, Mem w0 w1 (L.set i (.row v' e sz (n + m) (cs ++ news))) → wpList P ops Q rest (a.put o.dst v') w1) : wpList P ops Q (o :: rest) a w := by
  cases A with
  | some ad =>
    rcases Nat.eq_zero_or_pos m with hm | hm
    · subst hm
      have hn0 : news = [] := by have := hN.1; simpa using this
      subst hn0
      exact M.ev_append i E hgd s x ho hL hs hx (news := []) (by simp) (fun j u hj => by simp at hj) (by simp) hbytes hb0 h
    · obtain ⟨b, off, he, hr⟩ := hN.2 hm
      injection he with he
      subst he
      exact M.ev_append i E hgd s x ho hL hs hx (news := news) hN.1 (fun j u hj => by
        rw [show (⟨b, off, none⟩ : Addr).add j = ⟨b, off + j, none⟩ by exact Addr.add_mid _ _ _]
        exact hr j u hj) h1 hbytes hb0 h
  | none =>
    obtain rfl := hA rfl
    obtain rfl : m = 0 := by omega
    have hn0 : news = [] := by have := hN.1; simpa using this
    subst hn0
    obtain ⟨inf, hi, hz1, hz2, hz3⟩ := E.get
    have hrun := run_append_owned_none (P := P) w w0.heap.size T o.type e inf sz E.sl hi v n cs (M.row i hL)
    refine wpList_plain hgd fun K hK => ?_
    unfold Oper.wp execOp
    simp only [ho, resolve, invoke, builtin, Sem.run_bind, Sem.run_pure, Result.andThen_ok, List.map_toArray, List.map_cons, List.map_nil, hs, hx, hrun]
    refine hK _ _ (h v w ?_)
    rw [List.append_nil, Nat.add_zero, set_same hL]
    exact M
end
end Go.Proofs.Ytjkclggdaafmaaa
namespace Go.Proofs.Ytjkclggdaafmaaa
set_option linter.unusedSimpArgs false
set_option linter.unusedVariables false
open Go.RowKit
attribute [local go_sem] cell?_mk frozen?_mk

theorem elem_int64 : ElemOk Try.prog 49 2 (.int .i64 0) 1 8 := ⟨by kernel_rfl, by kernel_rfl, by kernel_rfl, by decide⟩
def nat64 (k : Nat) : Value := .int .i64 k
def one64 (k : Nat) : List Value := [nat64 k]
theorem one64_len (k : Nat) : (one64 k).length = 1 := rfl
/-- The cells of a field below a number. -/
def Fld.below (F : Fld) (n : Nat) : List Nat := (List.range n).filter fun (k : Nat) => F.has k
def Fld.all (F : Fld) : List Nat := F.below 100
theorem Fld.below_succ (F : Fld) (n : Nat) : F.below (n + 1) = F.below n ++ if F.has n then [n] else [] := by
  simp only [Fld.below, List.range_succ, List.filter_append]
  congr 1
  cases h : F.has n <;> simp [h]
theorem Fld.below_len (F : Fld) (n : Nat) : (F.below n).length ≤ n := by
  have := List.length_filter_le (fun (k : Nat) => F.has k) (List.range n)
  rwa [List.length_range] at this
theorem Fld.all_has {F : Fld} {k : Nat} (h : k ∈ F.all) : k < 100 ∧ F.has k = true := by
  simpa [Fld.all, Fld.below] using h

set_option maxRecDepth 100000 in
set_option maxHeartbeats 1000000 in
theorem cells_any (g : Nat) {t : TypeId} (F : Fld) (hF : F.ok) (w : World) (hb : Blk w g t F.cells) :
    Calls Try.prog 107 #[.pointer (some ⟨g, 0, none⟩)] w (RetRow w 2 1 F.all.length (flat one64 F.all)) := by
  have M := Lib.hid (Mem.start w)
  have HB := Lib.hid hb
  have HF := Lib.hid hF
  clear hb hF
  go_enter Try.func107, Try.ntmps107
  go_wp2_with (first
    | ((with_reducible refine gate_dst (N := 5) rfl ?_); go_must (refine M.out.ev_bs0 elem_int64 rfl rfl ?_); intro g5 w5 m; simp only [List.nil_append] at m; have M := Lib.hid m; clear m)
    )
  go_loopw [3, 6] (fun s v wr => ∃ k : Nat, k ≤ 100 ∧ v = .int .i64 k ∧ Mem w wr [.row s 2 1 (F.below k).length (flat one64 (F.below k))])
    (fun _ v _ => 100 - (intOf v).toNat)
  case atStart => exact ⟨0, by omega, rfl, M.out⟩
  case round =>
    clear M
    obtain ⟨k, hk, rfl, m⟩ := hrel
    have M := Lib.hid m
    clear m
    by_cases hlt : k < 100
    · have hkl := F.below_len k
      cases hq : F.has k
      · have HQ := Lib.hid hq
        clear hq
        go_wp2_with (first
          | (go_at_call 67; go_must (refine (has_any g F HF.out _ _ (M.out.arg HB.out)).mono ?_); rintro e w_ ⟨rfl, rfl⟩; rw [HQ.out])
          )
        refine ⟨⟨k + 1, by omega, by go_num, ?_⟩, by simp [intOf]; omega⟩
        rw [F.below_succ, HQ.out]
        simpa using M.out
      · have HQ := Lib.hid hq
        clear hq
        go_wp2_with (first
          | (go_at_call 67; go_must (refine (has_any g F HF.out _ _ (M.out.arg HB.out)).mono ?_); rintro e w_ ⟨rfl, rfl⟩; rw [HQ.out])
          | ((with_reducible refine gate_dst (N := 14) rfl ?_); go_must (refine M.out.ev_bs1 elem_int64 rfl _ rfl #[.int .i64 k] rfl rfl (by decide) ?_); intro g14 w14 m; simp only [List.cons_append, List.nil_append] at m; have M := Lib.hid m; clear m)
          | ((with_reducible refine gate_dst (N := 15) rfl ?_); go_must (refine M.out.ev_append1 0 1 elem_int64 rfl _ _ rfl rfl rfl rfl rfl rfl (by simp [Value.oneCell']) (by omega) (by decide) ?_); intro v15 w15 m; simp only [List.set_cons_zero] at m; have M := Lib.hid m; clear m)
          )
        refine ⟨⟨k + 1, by omega, by go_num, ?_⟩, by simp [intOf]; omega⟩
        have m := M.out.take 1
        rw [F.below_succ, HQ.out]
        simpa [flat_append, flat, one64, nat64] using m
    · obtain rfl : k = 100 := by omega
      go_wp2
      have hrow := M.out.row_slice 0 rfl
      obtain ⟨A, c, rfl, hc, _⟩ := hrow
      go_ret
      exact ⟨A, c, rfl, hc, M.out⟩
end Go.Proofs.Ytjkclggdaafmaaa
namespace Go.Proofs.Ytjkclggdaafmaaa
set_option linter.unusedSimpArgs false
set_option linter.unusedVariables false
open Go.RowKit

/-- A value that points to a variable of a type, and what lies there. -/
def Var (P : Program) (w : World) (ty : TypeId) (v : Value) (cs : Array Value) : Prop :=
  ∃ g, v = .pointer (some ⟨g, 0, none⟩) ∧ (loadVar ty ⟨g, 0, none⟩).run P w = .ok (.agg cs) w
section
variable {P : Program} {fn : Func} {R : Ending → World → Prop} {tmps : Array Value} {w : World} {p q u x : Tmp} {ty ty' : TypeId} {cs cs' : Array Value}
end
end Go.Proofs.Ytjkclggdaafmaaa
namespace Go.Proofs.Ytjkclggdaafmaaa
set_option linter.unusedSimpArgs false
set_option linter.unusedVariables false
open Go.RowKit

def onward (K : Act → World → Prop) : Exit → Act → World → Prop := fun e a w => match e with | .normal => K a w | _ => False
theorem onward_normal {K : Act → World → Prop} {a : Act} {w : World} (h : K a w) : onward K .normal a w := h
theorem Oper.of_onward {P : Program} {o : Oper} {a : Act} {w : World} {K K' : Act → World → Prop} {Q : Exit → Act → World → Prop} (hk : ∀ a w, K' a w → K a w)
    (hh : o.wp P a w K' (onward K)) : o.wp P a w K Q := by
  unfold Oper.wp at *
  generalize (execOp a.eval o).run P w = r at *
  cases r with
  | ok n w' =>
    cases n <;> simp only [Oper.upon] at hh ⊢ <;>
      first
        | exact hk _ _ hh
        | exact Calls.mono hh (fun e w'' he => by
            cases e
            · exact hk _ _ he
            · exact absurd he id
            · exact absurd (show LetsOut (onward K) from he).choose_spec.choose_spec id)
        | exact Rows.mono hh (fun _ _ he => hk _ _ he)
  | halt x w' => cases x <;> simp only [Oper.upon] at hh ⊢ <;> exact absurd hh id

theorem wpOp_onward {P : Program} {ops : Array Oper} {Q : Exit → Act → World → Prop} {i : Nat} {K : Act → World → Prop} {a : Act} {w : World} {o : Oper} (ho : ops[i]? = some o)
    (h : wpList P ops (onward K) [o] a w) : wpOp P ops Q i K a w := by
  unfold wpOp
  rw [ho]
  show if Region.wanted o (yielded ops a.tmps) = true then _ else _
  unfold wpList at h
  split
  · rename_i hw
    rw [if_pos hw] at h
    rcases h with h | h
    · exact .inl (Oper.of_onward (fun _ _ h => h) h)
    · exact absurd h.2.choose_spec.choose_spec id
  · rename_i hw
    rw [if_neg hw] at h
    exact h

end Go.Proofs.Ytjkclggdaafmaaa
namespace Go.Proofs.Ytjkclggdaafmaaa
set_option linter.unusedSimpArgs false
set_option linter.unusedVariables false
open Go.RowKit
attribute [local go_sem] cell?_mk frozen?_mk

structure Cs where
  lo : Nat
  hi : Nat
structure Cs.ok (c : Cs) : Prop where
  l : c.lo < 18446744073709551616
  h : c.hi < 18446744073709551616
def Cs.vals (c : Cs) : List Value := [.int .u64 c.lo, .int .u64 c.hi]
def Cs.cells (c : Cs) : Array Value := c.vals.toArray
theorem Cs.size (c : Cs) : c.cells.size = 2 := rfl
theorem Cs.one (c : Cs) : c.cells.all (·.oneCell') = true := by simp [Cs.cells, Cs.vals, Value.oneCell']
def Cs.z : Cs := ⟨0, 0⟩
theorem Cs.z_ok : Cs.z.ok := ⟨by decide, by decide⟩
def Cs.put (c : Cs) (n : Nat) : Cs := if n < 64 then ⟨c.lo ||| 2 ^ n, c.hi⟩ else ⟨c.lo, c.hi ||| 2 ^ (n - 64)⟩
def Cs.has (c : Cs) (n : Nat) : Bool := if n < 64 then c.lo.testBit n else c.hi.testBit (n - 64)
def setOf (ks : List Nat) : Cs := ks.foldl Cs.put Cs.z
theorem setOf_snoc (ks : List Nat) (k : Nat) : setOf (ks ++ [k]) = (setOf ks).put k := by simp [setOf]
theorem pow64 {n : Nat} (h : n < 64) : 2 ^ n < 18446744073709551616 := Nat.pow_lt_pow_right (a := 2) (by omega) h
theorem or64 {a b : Nat} (ha : a < 18446744073709551616) (hb : b < 18446744073709551616) : a ||| b < 18446744073709551616 := Nat.or_lt_two_pow (n := 64) ha hb
theorem Cs.put_ok {c : Cs} (h : c.ok) {n : Nat} (hn : n < 128) : (c.put n).ok := by
  unfold Cs.put
  split
  · rename_i h1; exact ⟨or64 h.l (pow64 h1), h.h⟩
  · exact ⟨h.l, or64 h.h (pow64 (by omega))⟩
theorem setOf_ok (ks : List Nat) (h : ∀ k ∈ ks, k < 128) : (setOf ks).ok := by
  have key : ∀ (ks : List Nat) (c : Cs), c.ok → (∀ k ∈ ks, k < 128) → (ks.foldl Cs.put c).ok := by
    intro ks
    induction ks with
    | nil => intro c hc _; exact hc
    | cons k r ih => intro c hc h; exact ih _ (Cs.put_ok hc (h k (by simp))) (fun j hj => h j (by simp [hj]))
  exact key ks _ Cs.z_ok h
theorem or_pow (a n : Nat) (ha : a < 18446744073709551616) (hn : n < 64) : bits .or .u64 (a : Int) (IntKind.u64.wrap (2 ^ n)) = ((a ||| 2 ^ n : Nat) : Int) := by
  have hp := pow64 hn
  have : IntKind.u64.wrap ((2 : Int) ^ n) = ((2 ^ n : Nat) : Int) := by
    rw [IntKind.wrap_u64]
    have : ((2 : Int) ^ n) = ((2 ^ n : Nat) : Int) := by simp
    rw [this]
    generalize 2 ^ n = m at hp ⊢
    omega
  rw [this, bits_or_u64_nat a _ ha hp]

set_option maxRecDepth 100000 in
set_option maxHeartbeats 1000000 in
theorem put_any {w0 w : World} {L : List Ent} (i : Nat) (M0 : Mem w0 w L) (b : Nat) {t : TypeId} (c : Cs) (hc : c.ok) (hL : L[i]? = some (.blk b t c.cells)) (n : Nat) (hn : n < 100) :
    Calls Try.prog 81 #[.pointer (some ⟨b, 0, none⟩), .int .i64 n] w fun e w' => e = .returned (.tuple #[]) ∧ Mem w0 w' (L.set i (.blk b t (c.put n).cells)) := by
  have M := Lib.hid M0
  have HL := Lib.hid hL
  have i0 : (0 : Int) ≤ (n : Int) := by omega
  have v0 : IntKind.i64.wrap 0 = 0 := by decide
  have v1 : IntKind.i64.wrap 1 = 1 := by decide
  clear M0 hL
  by_cases h : n < 64
  · have hq : (n : Int) / 64 = 0 := by omega
    have hr : (n : Int).tmod 64 = n := by rw [Int.tmod_eq_emod_of_nonneg i0]; omega
    have c0 := M.out.cell i HL.out (j := 0) (v := .int .u64 c.lo) rfl
    have hb := or_pow c.lo n hc.l h
    have HP := Lib.hid (show c.put n = ⟨c.lo ||| 2 ^ n, c.hi⟩ by rw [Cs.put, if_pos h])
    clear h
    go_enter Try.func81, Try.ntmps81
    go_still_tail 12, (by kernel_rfl)
    have M := Lib.hid M.out.drew
    go_wp2_with (first
      | ((with_reducible refine gate_store (x := .tmp 15) rfl ?_); go_must (refine M.out.ev_put i _ _ _ rfl rfl HL.out rfl (.int .u64 ((c.lo ||| 2 ^ n : Nat) : Int)) rfl (show 0 < c.cells.size by rw [Cs.size]; omega) sz30 rfl rfl ?_); intro wn m; have M := Lib.hid m; clear m)
      )
    refine bodyPost_end (results_none rfl _ _ _) rfl ?_
    exact ⟨rfl, by rw [HP.out]; exact M.out⟩
  · obtain ⟨j, hj⟩ : ∃ j, n = 64 + j := ⟨n - 64, by omega⟩
    have hq : (n : Int) / 64 = 1 := by omega
    have hr : (n : Int).tmod 64 = (j : Int) := by rw [Int.tmod_eq_emod_of_nonneg i0]; omega
    have j0 : (0 : Int) ≤ (j : Int) := by omega
    have hm : min j 64 = j := by omega
    have c0 := M.out.cell i HL.out (j := 1) (v := .int .u64 c.hi) rfl
    have hb := or_pow c.hi j hc.h (by omega)
    have HP := Lib.hid (show c.put n = ⟨c.lo, c.hi ||| 2 ^ j⟩ by rw [Cs.put, if_neg h, hj, Nat.add_sub_cancel_left])
    clear h hj
    go_enter Try.func81, Try.ntmps81
    go_still_tail 12, (by kernel_rfl)
    have M := Lib.hid M.out.drew
    go_wp2_with (first
      | ((with_reducible refine gate_store (x := .tmp 15) rfl ?_); go_must (refine M.out.ev_put i _ _ _ rfl rfl HL.out rfl (.int .u64 ((c.hi ||| 2 ^ j : Nat) : Int)) rfl (show 1 < c.cells.size by rw [Cs.size]; omega) sz30 rfl rfl ?_); intro wn m; have M := Lib.hid m; clear m)
      )
    refine bodyPost_end (results_none rfl _ _ _) rfl ?_
    exact ⟨rfl, by rw [HP.out]; exact M.out⟩
end Go.Proofs.Ytjkclggdaafmaaa
namespace Go.Proofs.Ytjkclggdaafmaaa
set_option linter.unusedSimpArgs false
set_option linter.unusedVariables false
open Go.ChangeShapes Go.WideShapes Go.RowKit Go.Deep

/-- The kinds of the whole numbers that a value of a type is made of, if it is made of nothing else. -/
def leavesGo (cells : TypeId → Nat) (L : TypeId → Option (List IntKind)) : List Field → Nat → Option (List IntKind)
  | [], _ => some []
  | f :: r, off => match L f.type with
    | none => none
    | some l => if f.offset = off ∧ cells f.type = l.length then (leavesGo cells L r (off + l.length)).map (l ++ ·) else none
def leaves (P : Program) : Nat → TypeId → Option (List IntKind)
  | 0, _ => none
  | d + 1, t => match P.underlying t with
    | some (.int k) => some [k]
    | some (.struct fs) => leavesGo P.cellsOf (leaves P d) fs.toList 0
    | some (.array n e) => match leaves P d e with
      | none => none
      | some l => if P.cellsOf e = l.length then some (List.replicate n l).flatten else none
    | _ => none

/-- Cells that are whole numbers of these kinds. -/
def Conf (ks : List IntKind) (cs : List Value) : Prop :=
  cs.length = ks.length ∧ ∀ (i : Nat) (k : IntKind), ks[i]? = some k → ∃ n : Int, cs[i]? = some (Value.int k n) ∧ (Lit.int k n).wf = true

theorem Conf.append {ks ks' : List IntKind} {cs : List Value} (h : Conf ks (cs.take ks.length)) (h' : Conf ks' (cs.drop ks.length)) : Conf (ks ++ ks') cs := by
  have hl := h.1
  have hl' := h'.1
  simp only [List.length_take, List.length_drop] at hl hl'
  refine ⟨by simp; omega, fun i k hk => ?_⟩
  rcases Nat.lt_or_ge i ks.length with hi | hi
  · rw [List.getElem?_append_left hi] at hk
    obtain ⟨n, h1, h2⟩ := h.2 i k hk
    rw [List.getElem?_take_of_lt hi] at h1
    exact ⟨n, h1, h2⟩
  · rw [List.getElem?_append_right hi] at hk
    obtain ⟨n, h1, h2⟩ := h'.2 _ k hk
    rw [List.getElem?_drop, show ks.length + (i - ks.length) = i by omega] at h1
    exact ⟨n, h1, h2⟩
theorem Conf.nil {cs : List Value} (h : cs.length = 0) : Conf [] cs := ⟨by simpa using h, fun i k hk => by simp at hk⟩

section
variable {H : Type} {enc : TypeId × Value → H} {P : Program} {w : World} {base : Nat} {spare : Nat → Bool} {held : Bool}
theorem leavesGo_conf {L : TypeId → Option (List IntKind)} (cs : List Value) : ∀ (fs : List Field) (off : Nat) (ks : List IntKind), leavesGo P.cellsOf L fs off = some ks →
    (∀ f ∈ fs, ∀ l, L f.type = some l → Conf l ((cs.drop f.offset).take (P.cellsOf f.type))) → Conf ks ((cs.drop off).take ks.length)
  | [], off, ks, h, _ => by
    simp only [leavesGo, Option.some.injEq] at h
    subst h
    exact Conf.nil (by simp)
  | f :: r, off, ks, h, hf => by
    simp only [leavesGo] at h
    cases hl : L f.type with
    | none => simp [hl] at h
    | some l =>
      simp only [hl] at h
      split at h
      · rename_i hc
        cases hr : leavesGo P.cellsOf L r (off + l.length) with
        | none => simp [hr] at h
        | some ks' =>
          simp only [hr, Option.map_some, Option.some.injEq] at h
          subst h
          have h1 := hf f (by simp) l hl
          rw [hc.1, hc.2] at h1
          have h2 := leavesGo_conf cs r (off + l.length) ks' hr (fun g hg => hf g (by simp [hg]))
          refine Conf.append ?_ ?_
          · rw [List.take_take, List.length_append, Nat.min_eq_left (by omega)]
            exact h1
          · rw [List.length_append, List.drop_take, List.drop_drop, show l.length + ks'.length - l.length = ks'.length by omega]
            exact h2
      · cases h
theorem replicate_conf {l : List IntKind} (cs : List Value) : ∀ (n off : Nat), (∀ i, i < n → Conf l ((cs.drop (off + i * l.length)).take l.length)) → Conf (List.replicate n l).flatten ((cs.drop off).take (n * l.length))
  | 0, off, _ => by simpa using Conf.nil (by simp)
  | n + 1, off, h => by
    rw [List.replicate_succ, List.flatten_cons]
    have h0 := h 0 (by omega)
    simp only [Nat.zero_mul, Nat.add_zero] at h0
    have h1 := replicate_conf (l := l) cs n (off + l.length) (fun i hi => by
      have := h (i + 1) (by omega)
      rwa [Nat.add_mul, Nat.one_mul, show off + (i * l.length + l.length) = off + l.length + i * l.length by omega] at this)
    refine Conf.append ?_ ?_
    · rw [List.take_take, Nat.min_eq_left (by rw [Nat.add_mul]; omega)]
      exact h0
    · rw [List.drop_take, List.drop_drop, show (n + 1) * l.length - l.length = n * l.length by rw [Nat.add_mul]; omega]
      exact h1
theorem leaves_conf : ∀ (d : Nat) (t : TypeId) (ks : List IntKind), leaves P d t = some ks → ∀ (fuel : Nat) (cs : List Value) (x : DataW H × List MemPlace), DataW.trod enc P w base spare held fuel t cs = some x → P.cellsOf t = ks.length → Conf ks cs
  | 0, t, ks, h => by simp [leaves] at h
  | d + 1, t, ks, h => by
    intro fuel cs x hx hc
    simp only [leaves] at h
    split at h
    · rename_i k ht
      simp only [Option.some.injEq] at h
      subst h
      obtain ⟨n, rfl, _, hw⟩ := DataW.trod_int ht hx
      refine ⟨rfl, fun i k' hk => ?_⟩
      have hi : i = 0 := by
        rcases Nat.eq_zero_or_pos i with h0 | h0
        · exact h0
        · rw [List.getElem?_eq_none (by simp; omega)] at hk; cases hk
      subst hi
      simp only [List.getElem?_cons_zero, Option.some.injEq] at hk
      subst hk
      exact ⟨n, rfl, hw⟩
    · rename_i fs ht
      obtain ⟨xs, n, _, _, hlen, hxl, hf⟩ := DataW.trod_struct ht hx
      have := leavesGo_conf (P := P) (L := leaves P d) cs fs.toList 0 ks h (fun f hfm l hl => by
        obtain ⟨i, hi⟩ := List.getElem?_of_mem hfm
        rw [Array.getElem?_toList] at hi
        have h1 := hf i f hi
        have hil : i < xs.length := by rw [hxl]; exact (Array.getElem?_eq_some_iff.1 hi).1
        rw [List.getElem?_eq_getElem hil] at h1
        have hcl : P.cellsOf f.type = l.length := by
          have key : ∀ (gs : List Field) (off : Nat) (ks : List IntKind), leavesGo P.cellsOf (leaves P d) gs off = some ks → f ∈ gs → P.cellsOf f.type = l.length := by
            intro gs
            induction gs with
            | nil => intro off ks _ hm; simp at hm
            | cons g r ih =>
              intro off ks hg hm
              simp only [leavesGo] at hg
              cases hlg : leaves P d g.type with
              | none => simp [hlg] at hg
              | some lg =>
                simp only [hlg] at hg
                split at hg
                · rename_i hcg
                  cases hr : leavesGo P.cellsOf (leaves P d) r (off + lg.length) with
                  | none => simp [hr] at hg
                  | some ks' =>
                    rcases List.mem_cons.1 hm with rfl | hm'
                    · rw [hl] at hlg
                      injection hlg with hlg
                      rw [hlg]
                      exact hcg.2
                    · exact ih _ _ hr hm'
                · cases hg
          exact key _ _ _ h hfm
        exact leaves_conf d f.type l hl _ _ _ h1 hcl)
      rwa [List.drop_zero, List.take_of_length_le (by omega)] at this
    · rename_i n e ht
      cases hl : leaves P d e with
      | none => simp [hl] at h
      | some l =>
        simp only [hl] at h
        split at h
        · rename_i hce
          simp only [Option.some.injEq] at h
          subst h
          obtain ⟨xs, m, _, _, hlen, hxl, hf⟩ := DataW.trod_array ht hx
          have h2 := replicate_conf (l := l) cs n 0 (fun i hi => by
            have h1 := hf i hi
            rw [List.getElem?_eq_getElem (by omega), hce] at h1
            rw [Nat.zero_add]
            exact leaves_conf d e l hl _ _ _ h1 hce)
          have hn : cs.length = n * l.length := by rw [hlen, hc]; simp
          rwa [List.drop_zero, List.take_of_length_le (by omega)] at h2
        · cases h
    · cases h
end

/-- The number in a cell. -/
def intOf' : Value → Int
  | .int _ n => n
  | _ => 0
/-- Cells that are whole numbers: their kinds, their numbers. -/
theorem Conf.nums {ks : List IntKind} {cs : List Value} (h : Conf ks cs) :
    ∃ ns : List Int, ns.length = ks.length ∧ cs = List.zipWith (fun k n => Value.int k n) ks ns ∧ ∀ (i : Nat) (k : IntKind) (n : Int), ks[i]? = some k → ns[i]? = some n → (Lit.int k n).wf = true := by
  refine ⟨cs.map intOf', by simp [h.1], ?_, ?_⟩
  · apply List.ext_getElem?
    intro i
    rcases Nat.lt_or_ge i ks.length with hi | hi
    · obtain ⟨n, h1, _⟩ := h.2 i ks[i] (List.getElem?_eq_getElem hi)
      rw [List.getElem?_zipWith, List.getElem?_eq_getElem hi, List.getElem?_map, h1]
      rfl
    · rw [List.getElem?_eq_none (by have := h.1; omega), List.getElem?_eq_none (by simp; omega)]
  · intro i k n hk hn
    obtain ⟨m, h1, h2⟩ := h.2 i k hk
    rw [List.getElem?_map, h1] at hn
    simp only [Option.map_some, intOf', Option.some.injEq] at hn
    rw [← hn]
    exact h2

section
variable {H : Type} {enc : TypeId × Value → H} {P : Program} {w : World} {base : Nat} {spare : Nat → Bool} {held : Bool}
/-- An argument that is a struct or an array of whole numbers. -/
theorem open_flat {r : Reach} {b0 : Nat} {t : TypeId} {d0 : Nat} {ks : List IntKind} (hk : leaves P d0 t = some ks) (hC : P.cellsOf t = ks.length) {desc : TypeDesc} (hu : P.underlying t = some desc) (hd : (match desc with | .struct _ | .array _ _ => true | _ => false) = true)
    {v : Value} {d : DataW H} {p : List MemPlace} (hv : Value.okWide P w r b0 t v) (h : DataW.Trod enc P w base spare held t v d p) : ∃ cs : List Value, v = .agg cs.toArray ∧ Conf ks cs := by
  have hcs : ∃ cs, v = .agg cs := by
    unfold Value.okWide at hv
    rw [hu] at hv
    cases desc <;> simp at hd <;> (obtain ⟨cs, h1, _⟩ := hv; exact ⟨cs, h1⟩)
  obtain ⟨cs, rfl⟩ := hcs
  obtain ⟨fuel, hf⟩ := h
  exact ⟨cs.toList, by simp, leaves_conf d0 t ks hk _ _ _ (by simpa [Value.cells] using hf) hC⟩
end
end Go.Proofs.Ytjkclggdaafmaaa
namespace Go.Proofs.Ytjkclggdaafmaaa
set_option linter.unusedSimpArgs false
set_option linter.unusedVariables false
open Go.ChangeShapes Go.WideShapes Go.RowKit Go.Deep

theorem Conf.cons {k : IntKind} {ks : List IntKind} {cs : List Value} (h : Conf (k :: ks) cs) : ∃ n r, cs = Value.int k n :: r ∧ (Lit.int k n).wf = true ∧ Conf ks r := by
  obtain ⟨n, h1, h2⟩ := h.2 0 k rfl
  cases cs with
  | nil => cases h1
  | cons v r =>
    simp only [List.getElem?_cons_zero, Option.some.injEq] at h1
    subst h1
    refine ⟨n, r, rfl, h2, by simpa using h.1, fun i k' hk => ?_⟩
    obtain ⟨m, h3, h4⟩ := h.2 (i + 1) k' (by simpa using hk)
    exact ⟨m, by simpa using h3, h4⟩
theorem Conf.nil_eq {cs : List Value} (h : Conf [] cs) : cs = [] := List.length_eq_zero_iff.1 (by simpa using h.1)
theorem Conf.reps {k : IntKind} {n : Nat} {ks : List IntKind} {cs : List Value} (h : Conf (List.replicate n k ++ ks) cs) :
    ∃ (xs : List Int) (r : List Value), cs = xs.map (Value.int k) ++ r ∧ xs.length = n ∧ (∀ x ∈ xs, (Lit.int k x).wf = true) ∧ Conf ks r := by
  induction n generalizing cs with
  | zero => exact ⟨[], cs, rfl, rfl, by simp, by simpa using h⟩
  | succ n ih =>
    rw [List.replicate_succ, List.cons_append] at h
    obtain ⟨x, r, rfl, hw, hr⟩ := h.cons
    obtain ⟨xs, r', rfl, hl, hx, hr'⟩ := ih hr
    refine ⟨x :: xs, r', by simp, by simp [hl], fun y hy => ?_, hr'⟩
    rcases List.mem_cons.1 hy with rfl | hy
    · exact hw
    · exact hx y hy
end Go.Proofs.Ytjkclggdaafmaaa
