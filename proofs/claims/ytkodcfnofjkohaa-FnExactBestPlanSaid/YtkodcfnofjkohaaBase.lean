/- Walks of the functions on fields on which all others lean: bounds, cells of a field, valid fields. -/
import Derived.Test.YtkodcfnofjkohaaFld
import Derived.Test.YtkodcfnofjkohaaSl
namespace Go.Proofs.Ytkodcfnofjkohaa
set_option linter.unusedSimpArgs false
set_option linter.unusedVariables false
open Go.RowKit

/-- Whether a field has a cell. -/
def Fld.has (F : Fld) (c : Int) : Bool := inB c 0 99 && (decide (c % 10 < F.wide) && decide (c / 10 < F.high))
theorem Fld.has_iff {F : Fld} {c : Int} : F.has c = true ↔ (0 ≤ c ∧ c ≤ 99) ∧ c % 10 < F.wide ∧ c / 10 < F.high := by
  simp [Fld.has, inB_iff]
/-- Whether one cell of a field is as it must be. -/
def Fld.okAt (F : Fld) (k : Nat) : Bool :=
  decide (0 ≤ F.kind k ∧ F.kind k ≤ 3 ∧ 0 ≤ F.seed k ∧ F.seed k ≤ 1000 ∧ (F.kind k ≠ 0 → F.seed k = 0) ∧ (F.has k = false → F.kind k = 0 ∧ F.seed k = 0))
def Fld.valid (F : Fld) : Bool := inB F.wide 1 10 && (inB F.high 1 10 && (List.range 100).all F.okAt)
theorem Fld.valid_of {F : Fld} (h1 : inB F.wide 1 10 = true) (h2 : inB F.high 1 10 = true) (h : ∀ j, j < 100 → F.okAt j = true) : F.valid = true := by
  simp only [Fld.valid, h1, h2, Bool.true_and, List.all_eq_true, List.mem_range]
  exact h
theorem Fld.not_valid {F : Fld} {k : Nat} (hk : k < 100) (h : F.okAt k = false) : F.valid = false := by
  rw [← Bool.not_eq_true]
  intro hv
  simp only [Fld.valid, Bool.and_eq_true, List.all_eq_true, List.mem_range] at hv
  rw [hv.2.2 k hk] at h
  cases h

theorem all_succ {p : Nat → Bool} {k : Nat} (h : ∀ j, j < k → p j = true) (hk : p k = true) : ∀ j, j < k + 1 → p j = true := fun j hj => by
  rcases Nat.lt_or_ge j k with h1 | h1
  · exact h j h1
  · obtain rfl : j = k := by omega
    exact hk

set_option maxRecDepth 100000 in
set_option maxHeartbeats 400000 in
theorem within_any (n lo hi : Int) (w : World) :
    Calls Try.prog 56 #[.int .i64 n, .int .i64 lo, .int .i64 hi] w fun e w' => e = .returned (.bool (inB n lo hi)) ∧ w = w' := by
  go_enter Try.func56, Try.ntmps56
  go_wp2
  · go_ret
    exact ⟨ret_bool (by simp [inB, *]), rfl⟩
  · go_ret
    exact ⟨ret_bool (by simp [inB]; omega), rfl⟩
set_option maxRecDepth 100000 in
set_option maxHeartbeats 400000 in
theorem l00In_any (n lo hi : Int) (w : World) :
    Calls Try.prog 46 #[.int .i64 n, .int .i64 lo, .int .i64 hi] w fun e w' => e = .returned (.bool (inB n lo hi)) ∧ w = w' := by
  go_enter Try.func46, Try.ntmps46
  go_wp2
  · go_ret
    exact ⟨ret_bool (by simp [inB, *]), rfl⟩
  · go_ret
    exact ⟨ret_bool (by simp [inB]; omega), rfl⟩
set_option maxRecDepth 100000 in
set_option maxHeartbeats 400000 in
theorem l01Kind_any (n : Int) (w : World) :
    Calls Try.prog 117 #[.int .i64 n] w fun e w' => e = .returned (.bool (inB n 0 3)) ∧ w = w' := by
  go_enter Try.func117, Try.ntmps117
  go_wp2_with (first
    | (go_at_call 46; go_must (refine (l00In_any _ _ _ _).mono ?_); rintro e w_ ⟨rfl, rfl⟩)
    )
  go_ret
  exact ⟨rfl, rfl⟩
set_option maxRecDepth 100000 in
set_option maxHeartbeats 400000 in
theorem l01Seeds_any (n : Int) (w : World) :
    Calls Try.prog 113 #[.int .i64 n] w fun e w' => e = .returned (.bool (inB n 0 1000)) ∧ w = w' := by
  go_enter Try.func113, Try.ntmps113
  go_wp2_with (first
    | (go_at_call 46; go_must (refine (l00In_any _ _ _ _).mono ?_); rintro e w_ ⟨rfl, rfl⟩)
    )
  go_ret
  exact ⟨rfl, rfl⟩

set_option maxRecDepth 100000 in
set_option maxHeartbeats 400000 in
theorem has_any (b : Nat) {t : TypeId} (F : Fld) (hF : F.ok) (c : Int) (w : World) (hb : Blk w b t F.cells) :
    Calls Try.prog 108 #[.pointer (some ⟨b, 0, none⟩), .int .i64 c] w fun e w' => e = .returned (.bool (F.has c)) ∧ w = w' := by
  have h0 := hb.cellv F.cell0
  have h1 := hb.cellv F.cell1
  have a0 := hF.w0
  have a1 := hF.w1
  have a2 := hF.h0
  have a3 := hF.h1
  clear hb hF
  cases hc : inB c 0 99
  · have HC := Lib.hid hc
    clear hc
    go_enter Try.func108, Try.ntmps108
    go_wp2_with (go_at_call 56; refine (within_any _ _ _ _).mono ?_; rintro e w' ⟨rfl, rfl⟩; rw [HC.out])
    go_ret
    exact ⟨ret_bool (by simp [Fld.has, HC.out]), rfl⟩
  · have HC := Lib.hid hc
    have hc2 := inB_iff.1 hc
    have b0 := hc2.1
    have b1 := hc2.2
    clear hc hc2
    go_enter Try.func108, Try.ntmps108
    go_wp2_with (go_at_call 56; refine (within_any _ _ _ _).mono ?_; rintro e w' ⟨rfl, rfl⟩; rw [HC.out])
    · have hw : c % 10 < F.wide := by assumption
      go_ret
      exact ⟨ret_bool (by simp [Fld.has, HC.out, hw]), rfl⟩
    · have hw : F.wide ≤ c % 10 := by assumption
      go_ret
      exact ⟨ret_bool (by simp [Fld.has, HC.out]; omega), rfl⟩
set_option maxRecDepth 100000 in
set_option maxHeartbeats 400000 in
theorem l01Is_any (b : Nat) {t : TypeId} (F : Fld) (hF : F.ok) (c : Int) (w : World) (hb : Blk w b t F.cells) :
    Calls Try.prog 102 #[.pointer (some ⟨b, 0, none⟩), .int .i64 c] w fun e w' => e = .returned (.bool (F.has c)) ∧ w = w' := by
  have h0 := hb.cellv F.cell0
  have h1 := hb.cellv F.cell1
  have a0 := hF.w0
  have a1 := hF.w1
  have a2 := hF.h0
  have a3 := hF.h1
  clear hb hF
  cases hc : inB c 0 99
  · have HC := Lib.hid hc
    clear hc
    go_enter Try.func102, Try.ntmps102
    go_wp2_with (go_at_call 46; refine (l00In_any _ _ _ _).mono ?_; rintro e w' ⟨rfl, rfl⟩; rw [HC.out])
    go_ret
    exact ⟨ret_bool (by simp [Fld.has, HC.out]), rfl⟩
  · have HC := Lib.hid hc
    have hc2 := inB_iff.1 hc
    have b0 := hc2.1
    have b1 := hc2.2
    clear hc hc2
    go_enter Try.func102, Try.ntmps102
    go_wp2_with (go_at_call 46; refine (l00In_any _ _ _ _).mono ?_; rintro e w' ⟨rfl, rfl⟩; rw [HC.out])
    · have hw : c % 10 < F.wide := by assumption
      go_ret
      exact ⟨ret_bool (by simp [Fld.has, HC.out, hw]), rfl⟩
    · have hw : F.wide ≤ c % 10 := by assumption
      go_ret
      exact ⟨ret_bool (by simp [Fld.has, HC.out]; omega), rfl⟩
set_option maxRecDepth 100000 in
set_option maxHeartbeats 1000000 in
theorem l01Ok_any (b : Nat) {t : TypeId} (F : Fld) (hF : F.ok) (w : World) (hb : Blk w b t F.cells) :
    Calls Try.prog 114 #[.pointer (some ⟨b, 0, none⟩)] w fun e w' => e = .returned (.bool F.valid) ∧ w = w' := by
  have h0 := hb.cellv F.cell0
  have h1 := hb.cellv F.cell1
  have a0 := hF.w0
  have a1 := hF.w1
  have a2 := hF.h0
  have a3 := hF.h1
  have HB := Lib.hid hb
  have HF := Lib.hid hF
  clear hb hF
  cases hw : inB F.wide 1 10
  · have HW := Lib.hid hw
    clear hw
    go_enter Try.func114, Try.ntmps114
    go_wp2_with (go_at_call 46; refine (l00In_any _ _ _ _).mono ?_; rintro e w' ⟨rfl, rfl⟩; rw [HW.out])
    go_ret
    exact ⟨ret_bool (by simp [Fld.valid, HW.out]), rfl⟩
  have HW := Lib.hid hw
  clear hw
  cases hh : inB F.high 1 10
  · have HH := Lib.hid hh
    clear hh
    go_enter Try.func114, Try.ntmps114
    go_wp2_with (go_at_call 46; refine (l00In_any _ _ _ _).mono ?_; rintro e w' ⟨rfl, rfl⟩; first | rw [HW.out] | rw [HH.out])
    go_ret
    exact ⟨ret_bool (by simp [Fld.valid, HH.out]), rfl⟩
  have HH := Lib.hid hh
  clear hh
  go_enter Try.func114, Try.ntmps114
  go_wp2_with (go_at_call 46; refine (l00In_any _ _ _ _).mono ?_; rintro e w' ⟨rfl, rfl⟩; first | rw [HW.out] | rw [HH.out])
  go_loop [3] (fun v => ∃ k : Nat, k ≤ 100 ∧ v = .int .i64 k ∧ ∀ j, j < k → F.okAt j = true) (fun v => 100 - (intOf v).toNat)
  case atStart => exact ⟨0, by omega, rfl, fun j h => by omega⟩
  case round =>
    obtain ⟨k, hk, rfl, ho⟩ := hrel
    have HO := Lib.hid ho
    clear ho
    by_cases hlt : k < 100
    · have hk1 := HB.out.cellv (Fld.cellK HF.out.toLen hlt)
      have hk2 := HB.out.cellv (Fld.cellS HF.out.toLen hlt)
      have b0 := (HF.out.kb k).1
      have b1 := (HF.out.kb k).2
      have b2 := (HF.out.sb k).1
      have b3 := (HF.out.sb k).2
      go_wp2_with (first
        | (go_at_call 117; go_must (refine (l01Kind_any _ _).mono ?_); rintro e w_ ⟨rfl, rfl⟩)
        | (go_at_call 113; go_must (refine (l01Seeds_any _ _).mono ?_); rintro e w_ ⟨rfl, rfl⟩)
        | (go_at_call 102; go_must (refine (l01Is_any b F HF.out _ _ HB.out).mono ?_); rintro e w_ ⟨rfl, rfl⟩)
        )
      all_goals first
        | (go_ret
           refine ⟨ret_bool (Fld.not_valid hlt ?_).symm, rfl⟩
           rw [← Bool.not_eq_true]
           simp only [Fld.okAt, decide_eq_true_eq]
           intro hq
           clear hk1 hk2
           simp_all [inB]
           done)
        | (refine ⟨⟨k + 1, by omega, by go_num, all_succ HO.out ?_⟩, by simp [intOf]; omega⟩
           simp only [Fld.okAt, decide_eq_true_eq]
           clear hk1 hk2
           simp_all [inB]
           done)
    · obtain rfl : k = 100 := by omega
      go_wp2
      go_ret
      exact ⟨ret_bool (Fld.valid_of HW.out HH.out HO.out).symm, rfl⟩

set_option maxRecDepth 100000 in
set_option maxHeartbeats 1000000 in
theorem ValidField_any (F : Fld) (hF : F.ok) (w : World) :
    Calls Try.prog 103 #[.agg F.cells] w fun e w' => e = .returned (.bool F.valid) ∧ Mem w w' [] := by
  have M := Lib.hid (Mem.start w)
  have S1 := Lib.hid (Fld.size hF.toLen)
  have c0 := F.cell0
  have c1 := F.cell1
  have a0 := hF.w0
  have a1 := hF.w1
  have a2 := hF.h0
  have a3 := hF.h1
  have HF := Lib.hid hF
  clear hF
  cases hw : inB F.wide 1 10
  · have HW := Lib.hid hw
    clear hw
    go_enter Try.func103, Try.ntmps103
    go_wp2_with (first
      | ((with_reducible refine gate_dst (N := 1) rfl ?_); go_must (refine M.out.ev_new rfl (by first | (go_simp; done) | (go_simp; rfl)) ?_); intro g1 w1 m; simp only [List.cons_append, List.nil_append] at m; have M := Lib.hid m; clear m; try have q0_1 := M.out.cell (j := 1) 0 rfl (by first | assumption | rfl))
      | ((with_reducible refine gate_dst (N := 7) rfl ?_); go_must (refine M.out.ev_ld 0 _ _ rfl rfl rfl Try.underlying36 rfl rfl (by first | assumption | rfl) ?_))
      | ((with_reducible refine gate_dst (N := 24) rfl ?_); go_must (refine M.out.ev_ld 0 _ _ rfl rfl rfl Try.underlying5 rfl rfl (by first | assumption | rfl) ?_))
      | ((with_reducible refine gate_dst (N := 28) rfl ?_); go_must (refine M.out.ev_ld 0 _ _ rfl rfl rfl Try.underlying38 rfl rfl (by first | assumption | rfl) ?_))
      | (go_at_call 56; refine (within_any _ _ _ _).mono ?_; rintro e w' ⟨rfl, rfl⟩; rw [HW.out]))
    go_ret
    exact ⟨ret_bool (by simp [Fld.valid, HW.out]), M.out.take 0⟩
  have HW := Lib.hid hw
  clear hw
  cases hh : inB F.high 1 10
  · have HH := Lib.hid hh
    clear hh
    go_enter Try.func103, Try.ntmps103
    go_wp2_with (first
      | ((with_reducible refine gate_dst (N := 13) rfl ?_); have c1b := M.out.cell 0 rfl c1; fail)
      | ((with_reducible refine gate_dst (N := 1) rfl ?_); go_must (refine M.out.ev_new rfl (by first | (go_simp; done) | (go_simp; rfl)) ?_); intro g1 w1 m; simp only [List.cons_append, List.nil_append] at m; have M := Lib.hid m; clear m; try have q0_1 := M.out.cell (j := 1) 0 rfl (by first | assumption | rfl))
      | ((with_reducible refine gate_dst (N := 7) rfl ?_); go_must (refine M.out.ev_ld 0 _ _ rfl rfl rfl Try.underlying36 rfl rfl (by first | assumption | rfl) ?_))
      | ((with_reducible refine gate_dst (N := 24) rfl ?_); go_must (refine M.out.ev_ld 0 _ _ rfl rfl rfl Try.underlying5 rfl rfl (by first | assumption | rfl) ?_))
      | ((with_reducible refine gate_dst (N := 28) rfl ?_); go_must (refine M.out.ev_ld 0 _ _ rfl rfl rfl Try.underlying38 rfl rfl (by first | assumption | rfl) ?_))
      | (go_at_call 56; refine (within_any _ _ _ _).mono ?_; rintro e w' ⟨rfl, rfl⟩; first | rw [HW.out]; have c1b := M.out.cell 0 rfl c1 | rw [HH.out]))
    go_ret
    exact ⟨ret_bool (by simp [Fld.valid, HH.out]), M.out.take 0⟩
  have HH := Lib.hid hh
  clear hh
  go_enter Try.func103, Try.ntmps103
  go_wp2_with (first
    | ((with_reducible refine gate_dst (N := 1) rfl ?_); go_must (refine M.out.ev_new rfl (by first | (go_simp; done) | (go_simp; rfl)) ?_); intro g1 w1 m; simp only [List.cons_append, List.nil_append] at m; have M := Lib.hid m; clear m; try have q0_1 := M.out.cell (j := 1) 0 rfl (by first | assumption | rfl))
    | ((with_reducible refine gate_dst (N := 7) rfl ?_); go_must (refine M.out.ev_ld 0 _ _ rfl rfl rfl Try.underlying36 rfl rfl (by first | assumption | rfl) ?_))
    | ((with_reducible refine gate_dst (N := 24) rfl ?_); go_must (refine M.out.ev_ld 0 _ _ rfl rfl rfl Try.underlying5 rfl rfl (by first | assumption | rfl) ?_))
    | ((with_reducible refine gate_dst (N := 28) rfl ?_); go_must (refine M.out.ev_ld 0 _ _ rfl rfl rfl Try.underlying38 rfl rfl (by first | assumption | rfl) ?_))
    | (go_at_call 56; refine (within_any _ _ _ _).mono ?_; rintro e w' ⟨rfl, rfl⟩; first | rw [HW.out]; have c1b := M.out.cell 0 rfl c1 | rw [HH.out]))
  go_loopw [18] (fun v wr => ∃ k : Nat, k ≤ 100 ∧ v = .int .i64 k ∧ (∀ j, j < k → F.okAt j = true) ∧ Mem w wr [.blk g1 49 F.cells]) (fun v _ => 100 - (intOf v).toNat)
  case atStart => exact ⟨0, by omega, rfl, fun j h => by omega, M.out⟩
  case round =>
    clear M c1b
    obtain ⟨k, hk, rfl, ho, m⟩ := hrel
    have HO := Lib.hid ho
    have M := Lib.hid m
    clear ho m
    by_cases hlt : k < 100
    · have hk1 := M.out.cell 0 rfl (Fld.cellK HF.out.toLen hlt)
      have hk2 := M.out.cell 0 rfl (Fld.cellS HF.out.toLen hlt)
      have b0 := (HF.out.kb k).1
      have b1 := (HF.out.kb k).2
      have b2 := (HF.out.sb k).1
      have b3 := (HF.out.sb k).2
      have i0 : (0 : Int) ≤ (k : Int) := by omega
      have i1 : (k : Int) < 100 := by omega
      clear c0 c1
      go_wp2_with fail
      go_quiet (fail)
      have M := Lib.hid (M.out.drewN nq)
      go_wp2_with (first
        | (go_at_call 56; go_must (refine (within_any _ _ _ _).mono ?_); rintro e w_ ⟨rfl, rfl⟩)
        | (go_at_call 108; go_must (refine (has_any g1 F HF.out _ _ (M.out.blk 0 rfl)).mono ?_); rintro e w_ ⟨rfl, rfl⟩)
        )
      all_goals first
        | (go_ret
           refine ⟨ret_bool (Fld.not_valid hlt ?_).symm, M.out.take 0⟩
           rw [← Bool.not_eq_true]
           simp only [Fld.okAt, decide_eq_true_eq]
           intro hq
           clear hk1 hk2
           first | (simp_all [inB]; done) | (simp_all [inB]; omega))
        | (refine ⟨⟨k + 1, by omega, by go_num, all_succ HO.out ?_, M.out⟩, by simp [intOf]; omega⟩
           simp only [Fld.okAt, decide_eq_true_eq]
           clear hk1 hk2
           first | (simp_all [inB]; done) | (simp_all [inB]; omega))
    · obtain rfl : k = 100 := by omega
      go_wp2
      go_ret
      exact ⟨ret_bool (Fld.valid_of HW.out HH.out HO.out).symm, M.out.take 0⟩
end Go.Proofs.Ytkodcfnofjkohaa
