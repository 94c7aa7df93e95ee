/- Texts of a proof, laid together: Wrong. -/
import Derived.Test.YtaepgjjmfopiiaaGreatDoorZH16
import Derived.Test.YtaepgjjmfopiiaaGreatDoorZH02
namespace Go.Proofs.YtaepgjjmfopiiaaGreatDoor
set_option linter.unusedSimpArgs false
set_option linter.unusedVariables false
open Go.RowKit
attribute [local go_sem] cell?_mk frozen?_mk

/-- What is said of a field and a diary's length. -/
def diaryOf (F : Fld) (n : Nat) : Int := if F.valid = false then 1 else if 100 < n then 3 else 0
def wrongOf (F : Fld) (xs : List Entry) : Int × Int × Int :=
  if diaryOf F xs.length ≠ 0 then (0, 0, diaryOf F xs.length) else (firstBad F xs).elim (0, 0, 6) fun p => ((p.1 : Int), p.2, 0)
theorem firstBad_code {xs : List Entry} {F : Fld} {p : Nat × Int} (h : firstBad F xs = some p) : p.2 ≠ 0 := by
  induction xs generalizing F p with
  | nil => cases h
  | cons x r ih =>
    simp only [firstBad] at h
    split at h
    · rename_i hc
      injection h with h
      subst h
      exact hc
    · cases hr : firstBad (F.made x) r with
      | none => rw [hr] at h; cases h
      | some q =>
        rw [hr] at h
        injection h with h
        subst h
        exact ih (p := q) hr

set_option maxRecDepth 100000 in
set_option maxHeartbeats 1000000 in
theorem l07Diary_any (b : Nat) {t : TypeId} (F : Fld) (hF : F.ok) (A : Option Addr) (c n : Nat) (w : World) (hb : Blk w b t F.cells) :
    Calls Tryz.prog 38 #[.pointer (some ⟨b, 0, none⟩), .slice A n c] w fun e w' => e = .returned (.int .i64 (diaryOf F n)) ∧ w = w' := by
  have HV := Lib.hid (Bool.eq_false_or_eq_true F.valid)
  go_enter Tryz.func38, Tryz.ntmps38
  rcases HV.out with hv | hv
  · by_cases hn : 100 < n
    · go_wp2_with (first
        | (go_at_call 43; go_must (refine (l01Ok_any b F hF _ hb).mono ?_); rintro e w_ ⟨rfl, rfl⟩; rw [hv]))
      go_ret
      exact ⟨ret_int (by simp [diaryOf, hv, hn]), rfl⟩
    · go_wp2_with (first
        | (go_at_call 43; go_must (refine (l01Ok_any b F hF _ hb).mono ?_); rintro e w_ ⟨rfl, rfl⟩; rw [hv]))
      go_ret
      exact ⟨ret_int (by simp [diaryOf, hv, hn]), rfl⟩
  · go_wp2_with (first
      | (go_at_call 43; go_must (refine (l01Ok_any b F hF _ hb).mono ?_); rintro e w_ ⟨rfl, rfl⟩; rw [hv]))
    go_ret
    exact ⟨ret_int (by simp [diaryOf, hv]), rfl⟩

set_option maxRecDepth 100000 in
set_option maxHeartbeats 1000000 in
theorem diaryCode_any (b : Nat) {t : TypeId} (F : Fld) (hF : F.ok) (A : Option Addr) (c n : Nat) (w : World) (hb : Blk w b t F.cells) :
    Calls Tryz.prog 36 #[.pointer (some ⟨b, 0, none⟩), .slice A n c] w fun e w' => e = .returned (.int .i64 (diaryOf F n)) ∧ Mem w w' [] := by
  have M := Lib.hid (Mem.start w)
  have HB := Lib.hid hb
  have HV := Lib.hid (Bool.eq_false_or_eq_true F.valid)
  have S1 := Lib.hid (Fld.size hF.toLen)
  clear hb
  have hc0 := HB.out.cellv F.cell0
  go_enter Tryz.func36, Tryz.ntmps36
  rcases HV.out with hv | hv
  · by_cases hn : 100 < n
    · go_wp2_with (first
        | ((with_reducible refine gate_dst (N := 8) rfl ?_); go_must (refine M.out.ev_lda _ _ rfl rfl HB.out Tryz.underlying29 rfl (by rw [S1.out]; exact sz29) rfl ?_))
        | (go_at_call 15; go_must (refine (ValidField_any F hF _).mono ?_); rintro e w_ ⟨rfl, N_⟩; have m := M.out.join N_; clear N_; simp only [List.cons_append, List.nil_append, List.append_nil] at m; have M := Lib.hid m; clear m; rw [hv]))
      go_ret
      exact ⟨ret_int (by simp [diaryOf, hv, hn]), M.out.take 0⟩
    · go_wp2_with (first
        | ((with_reducible refine gate_dst (N := 8) rfl ?_); go_must (refine M.out.ev_lda _ _ rfl rfl HB.out Tryz.underlying29 rfl (by rw [S1.out]; exact sz29) rfl ?_))
        | (go_at_call 15; go_must (refine (ValidField_any F hF _).mono ?_); rintro e w_ ⟨rfl, N_⟩; have m := M.out.join N_; clear N_; simp only [List.cons_append, List.nil_append, List.append_nil] at m; have M := Lib.hid m; clear m; rw [hv]))
      go_ret
      exact ⟨ret_int (by simp [diaryOf, hv, hn]), M.out.take 0⟩
  · go_wp2_with (first
      | ((with_reducible refine gate_dst (N := 8) rfl ?_); go_must (refine M.out.ev_lda _ _ rfl rfl HB.out Tryz.underlying29 rfl (by rw [S1.out]; exact sz29) rfl ?_))
      | (go_at_call 15; go_must (refine (ValidField_any F hF _).mono ?_); rintro e w_ ⟨rfl, N_⟩; have m := M.out.join N_; clear N_; simp only [List.cons_append, List.nil_append, List.append_nil] at m; have M := Lib.hid m; clear m; rw [hv]))
    go_ret
    exact ⟨ret_int (by simp [diaryOf, hv]), M.out.take 0⟩

theorem repF_size {F : Fld} (hF : F.good) (xs : List Entry) : (repF F xs).cells.size = 202 := by
  unfold repF
  cases hb : firstBad F xs with
  | some p => exact Fld.size Fld.z_len
  | none =>
    have : ∀ (xs : List Entry) (F : Fld), F.len → (F.thru xs).len := by
      intro xs
      induction xs with
      | nil => intro F h; exact h
      | cons x r ih => intro F h; exact ih (F.made x) (Fld.withSeed_len h _ _)
    exact Fld.size (this xs F hF.ok.toLen)
theorem repS_size (F : Fld) (xs : List Entry) : (ints .i64 (repS F xs)).size = 4 := by
  unfold repS
  split
  · rfl
  · rw [ints_size, sumsOf_len]
set_option maxRecDepth 100000 in
set_option maxHeartbeats 2000000 in
theorem impl_wrong_any (F : Fld) (hF : F.ok) (A : Option Addr) (c : Nat) (xs : List Entry) (hx : ∀ x ∈ xs, x.ok) (hn : xs.length ≤ 1048576) (w : World) (hs : Sl w 3 A xs.length (flat Entry.vals xs)) :
    Calls Tryz.prog 11 #[.agg F.cells, .slice A xs.length c] w fun e w' =>
      e = .returned (.tuple #[.int .i64 (wrongOf F xs).1, .int .i64 (wrongOf F xs).2.1, .int .i64 (wrongOf F xs).2.2]) ∧ Mem w w' [] := by
  have M := Lib.hid (Mem.start w)
  have HX := Lib.hid hx
  have HS := Lib.hid hs
  have S1 := Lib.hid (Fld.size hF.toLen)
  have hlen := Fld.size (F := repF F xs)
  clear hx hs
  go_enter Tryz.func11, Tryz.ntmps11
  by_cases hd : diaryOf F xs.length = 0
  · have hv : F.valid = true := by
      rw [← Bool.not_eq_false]
      intro h
      simp [diaryOf, h] at hd
    have HG := Lib.hid (Fld.valid_good hF hv)
    have HD := Lib.hid hd
    have hdd : (diaryOf F xs.length != 0) = false := by simp [hd]
    have S2 := Lib.hid (repF_size HG.out xs)
    have S3 := Lib.hid (repS_size F xs)
    have O1 := Lib.hid (Fld.one (repF F xs))
    clear hd
    cases hb : firstBad F xs with
    | none =>
      have HB := Lib.hid hb
      clear hb
      have e1 : repI 0 F xs = 0 := by simp [repI, HB.out]
      have e2 : repC F xs = 0 := by simp [repC, HB.out]
      go_wp2_with (first
        | ((with_reducible refine gate_dst (N := 2) rfl ?_); go_must (refine M.out.ev_new rfl (by first | (go_simp; done) | (go_simp; rfl)) ?_); intro g2 w2 m; simp only [List.cons_append, List.nil_append] at m; have M := Lib.hid m; clear m)
        | ((with_reducible refine gate_dst (N := 18) rfl ?_); go_must (refine M.out.ev_ldw 0 _ _ rfl rfl rfl Tryz.underlying29 rfl (by first | exact sz29 | (rw [S1.out]; exact sz29) | (rw [S2.out]; exact sz29) | (rw [S3.out]; exact sz29)) rfl ?_))
        | ((with_reducible refine gate_dst (N := 8) rfl ?_); go_must (refine M.out.ev_new rfl (by first | (go_simp; done) | (go_simp; rfl)) ?_); intro g8 w8 m; simp only [List.cons_append, List.nil_append] at m; have M := Lib.hid m; clear m)
        | ((with_reducible refine gate_dst (N := 9) rfl ?_); go_must (refine M.out.ev_new rfl (by first | (go_simp; done) | (go_simp; rfl)) ?_); intro g9 w9 m; simp only [List.cons_append, List.nil_append] at m; have M := Lib.hid m; clear m)
        | ((with_reducible refine gate_store (x := .tmp 8) rfl ?_); go_must (refine M.out.ev_stw 1 _ _ _ rfl rfl rfl rfl _ rfl (by first | rfl | (simp only [S1.out]; rfl) | (simp only [S1.out, S2.out]; rfl) | (simp only [S3.out]; rfl) | (simp only [S1.out, S2.out, S3.out]; rfl)) (by first | exact sz29 | (rw [S1.out]; exact sz29) | (rw [S2.out]; exact sz29) | (rw [S3.out]; exact sz29)) (by first | exact ints_one _ _ | exact Fld.one _ | exact O1.out | rfl | (simp [Value.oneCell']; done)) rfl ?_); intro wn m; simp only [List.set_cons_succ, List.set_cons_zero, List.setIfInBounds_toArray] at m; have M := Lib.hid m; clear m)
        | ((with_reducible refine gate_store (x := .tmp 9) rfl ?_); go_must (refine M.out.ev_stw 2 _ _ _ rfl rfl rfl rfl _ rfl (by first | rfl | (simp only [S1.out]; rfl) | (simp only [S1.out, S2.out]; rfl) | (simp only [S3.out]; rfl) | (simp only [S1.out, S2.out, S3.out]; rfl)) (by first | exact sz36 | (rw [S1.out]; exact sz36) | (rw [S2.out]; exact sz36) | (rw [S3.out]; exact sz36)) (by first | exact ints_one _ _ | exact Fld.one _ | exact O1.out | rfl | (simp [Value.oneCell']; done)) rfl ?_); intro wn m; simp only [List.set_cons_succ, List.set_cons_zero, List.setIfInBounds_toArray] at m; have M := Lib.hid m; clear m)
        | (go_at_call 36; go_must (refine (diaryCode_any _ F hF A c xs.length _ (M.out.blk 0 rfl)).mono ?_); rintro e w_ ⟨rfl, N_⟩; have m := M.out.join N_; clear N_; simp only [List.cons_append, List.nil_append, List.append_nil] at m; have M := Lib.hid m; clear m)
        | (go_at_call 37; go_must (refine (replay_any F HG.out A c xs HX.out hn _ (M.out.sl HS.out)).mono ?_); rintro e w_ ⟨rfl, N_⟩; have m := M.out.join N_; clear N_; simp only [List.cons_append, List.nil_append, List.append_nil] at m; have M := Lib.hid m; clear m); rw [e1, e2])
      go_ret3
      refine ⟨?_, M.out.take 0⟩
      simp only [wrongOf, HD.out, HB.out]
      rfl
    | some p =>
      have hc := firstBad_code hb
      have HB := Lib.hid hb
      clear hb
      have e1 : repI 0 F xs = (p.1 : Int) := by simp [repI, HB.out]
      have e2 : repC F xs = p.2 := by simp [repC, HB.out]
      have hcc : (p.2 == 0) = false := by simp [hc]
      have h0 : ¬ ((p.1 : Int) < 0) := by omega
      go_wp2_with (first
        | ((with_reducible refine gate_dst (N := 2) rfl ?_); go_must (refine M.out.ev_new rfl (by first | (go_simp; done) | (go_simp; rfl)) ?_); intro g2 w2 m; simp only [List.cons_append, List.nil_append] at m; have M := Lib.hid m; clear m)
        | ((with_reducible refine gate_dst (N := 18) rfl ?_); go_must (refine M.out.ev_ldw 0 _ _ rfl rfl rfl Tryz.underlying29 rfl (by first | exact sz29 | (rw [S1.out]; exact sz29) | (rw [S2.out]; exact sz29) | (rw [S3.out]; exact sz29)) rfl ?_))
        | ((with_reducible refine gate_dst (N := 8) rfl ?_); go_must (refine M.out.ev_new rfl (by first | (go_simp; done) | (go_simp; rfl)) ?_); intro g8 w8 m; simp only [List.cons_append, List.nil_append] at m; have M := Lib.hid m; clear m)
        | ((with_reducible refine gate_dst (N := 9) rfl ?_); go_must (refine M.out.ev_new rfl (by first | (go_simp; done) | (go_simp; rfl)) ?_); intro g9 w9 m; simp only [List.cons_append, List.nil_append] at m; have M := Lib.hid m; clear m)
        | ((with_reducible refine gate_store (x := .tmp 8) rfl ?_); go_must (refine M.out.ev_stw 1 _ _ _ rfl rfl rfl rfl _ rfl (by first | rfl | (simp only [S1.out]; rfl) | (simp only [S1.out, S2.out]; rfl) | (simp only [S3.out]; rfl) | (simp only [S1.out, S2.out, S3.out]; rfl)) (by first | exact sz29 | (rw [S1.out]; exact sz29) | (rw [S2.out]; exact sz29) | (rw [S3.out]; exact sz29)) (by first | exact ints_one _ _ | exact Fld.one _ | exact O1.out | rfl | (simp [Value.oneCell']; done)) rfl ?_); intro wn m; simp only [List.set_cons_succ, List.set_cons_zero, List.setIfInBounds_toArray] at m; have M := Lib.hid m; clear m)
        | ((with_reducible refine gate_store (x := .tmp 9) rfl ?_); go_must (refine M.out.ev_stw 2 _ _ _ rfl rfl rfl rfl _ rfl (by first | rfl | (simp only [S1.out]; rfl) | (simp only [S1.out, S2.out]; rfl) | (simp only [S3.out]; rfl) | (simp only [S1.out, S2.out, S3.out]; rfl)) (by first | exact sz36 | (rw [S1.out]; exact sz36) | (rw [S2.out]; exact sz36) | (rw [S3.out]; exact sz36)) (by first | exact ints_one _ _ | exact Fld.one _ | exact O1.out | rfl | (simp [Value.oneCell']; done)) rfl ?_); intro wn m; simp only [List.set_cons_succ, List.set_cons_zero, List.setIfInBounds_toArray] at m; have M := Lib.hid m; clear m)
        | (go_at_call 36; go_must (refine (diaryCode_any _ F hF A c xs.length _ (M.out.blk 0 rfl)).mono ?_); rintro e w_ ⟨rfl, N_⟩; have m := M.out.join N_; clear N_; simp only [List.cons_append, List.nil_append, List.append_nil] at m; have M := Lib.hid m; clear m)
        | (go_at_call 37; go_must (refine (replay_any F HG.out A c xs HX.out hn _ (M.out.sl HS.out)).mono ?_); rintro e w_ ⟨rfl, N_⟩; have m := M.out.join N_; clear N_; simp only [List.cons_append, List.nil_append, List.append_nil] at m; have M := Lib.hid m; clear m); rw [e1, e2])
      go_ret3
      refine ⟨?_, M.out.take 0⟩
      simp only [wrongOf, HD.out, HB.out]
      rfl
  · have HD := Lib.hid hd
    have hdd : (diaryOf F xs.length != 0) = true := by simp [hd]
    clear hd
    go_wp2_with (first
      | ((with_reducible refine gate_dst (N := 2) rfl ?_); go_must (refine M.out.ev_new rfl (by first | (go_simp; done) | (go_simp; rfl)) ?_); intro g2 w2 m; simp only [List.cons_append, List.nil_append] at m; have M := Lib.hid m; clear m)
      | ((with_reducible refine gate_dst (N := 18) rfl ?_); go_must (refine M.out.ev_ldw 0 _ _ rfl rfl rfl Tryz.underlying29 rfl (by first | exact sz29 | (rw [S1.out]; exact sz29) | (rw [S2.out]; exact sz29) | (rw [S3.out]; exact sz29)) rfl ?_))
      | ((with_reducible refine gate_dst (N := 8) rfl ?_); go_must (refine M.out.ev_new rfl (by first | (go_simp; done) | (go_simp; rfl)) ?_); intro g8 w8 m; simp only [List.cons_append, List.nil_append] at m; have M := Lib.hid m; clear m)
      | ((with_reducible refine gate_dst (N := 9) rfl ?_); go_must (refine M.out.ev_new rfl (by first | (go_simp; done) | (go_simp; rfl)) ?_); intro g9 w9 m; simp only [List.cons_append, List.nil_append] at m; have M := Lib.hid m; clear m)
      | ((with_reducible refine gate_store (x := .tmp 8) rfl ?_); go_must (refine M.out.ev_stw 1 _ _ _ rfl rfl rfl rfl _ rfl (by first | rfl | (simp only [S1.out]; rfl) | (simp only [S1.out, S2.out]; rfl) | (simp only [S3.out]; rfl) | (simp only [S1.out, S2.out, S3.out]; rfl)) (by first | exact sz29 | (rw [S1.out]; exact sz29) | (rw [S2.out]; exact sz29) | (rw [S3.out]; exact sz29)) (by first | exact ints_one _ _ | exact Fld.one _ | exact O1.out | rfl | (simp [Value.oneCell']; done)) rfl ?_); intro wn m; simp only [List.set_cons_succ, List.set_cons_zero, List.setIfInBounds_toArray] at m; have M := Lib.hid m; clear m)
      | ((with_reducible refine gate_store (x := .tmp 9) rfl ?_); go_must (refine M.out.ev_stw 2 _ _ _ rfl rfl rfl rfl _ rfl (by first | rfl | (simp only [S1.out]; rfl) | (simp only [S1.out, S2.out]; rfl) | (simp only [S3.out]; rfl) | (simp only [S1.out, S2.out, S3.out]; rfl)) (by first | exact sz36 | (rw [S1.out]; exact sz36) | (rw [S2.out]; exact sz36) | (rw [S3.out]; exact sz36)) (by first | exact ints_one _ _ | exact Fld.one _ | exact O1.out | rfl | (simp [Value.oneCell']; done)) rfl ?_); intro wn m; simp only [List.set_cons_succ, List.set_cons_zero, List.setIfInBounds_toArray] at m; have M := Lib.hid m; clear m)
      | (go_at_call 36; go_must (refine (diaryCode_any _ F hF A c xs.length _ (M.out.blk 0 rfl)).mono ?_); rintro e w_ ⟨rfl, N_⟩; have m := M.out.join N_; clear N_; simp only [List.cons_append, List.nil_append, List.append_nil] at m; have M := Lib.hid m; clear m))
    go_ret3
    refine ⟨?_, M.out.take 0⟩
    simp only [wrongOf, if_pos HD.out]
    rfl
set_option maxRecDepth 100000 in
set_option maxHeartbeats 2000000 in
theorem spec_wrong_any (F : Fld) (hF : F.ok) (A : Option Addr) (c : Nat) (xs : List Entry) (hx : ∀ x ∈ xs, x.ok) (hn : xs.length ≤ 1048576) (w : World) (hs : Sl w 3 A xs.length (flat Entry.vals xs)) :
    Calls Tryz.prog 12 #[.agg F.cells, .slice A xs.length c] w fun e w' =>
      e = .returned (.tuple #[.int .i64 (wrongOf F xs).1, .int .i64 (wrongOf F xs).2.1, .int .i64 (wrongOf F xs).2.2]) ∧ Mem w w' [] := by
  have M := Lib.hid (Mem.start w)
  have HX := Lib.hid hx
  have HS := Lib.hid hs
  have S1 := Lib.hid (Fld.size hF.toLen)
  have hlen := Fld.size (F := repF F xs)
  clear hx hs
  go_enter Tryz.func12, Tryz.ntmps12
  by_cases hd : diaryOf F xs.length = 0
  · have hv : F.valid = true := by
      rw [← Bool.not_eq_false]
      intro h
      simp [diaryOf, h] at hd
    have HG := Lib.hid (Fld.valid_good hF hv)
    have HD := Lib.hid hd
    have hdd : (diaryOf F xs.length != 0) = false := by simp [hd]
    have S2 := Lib.hid (repF_size HG.out xs)
    have S3 := Lib.hid (repS_size F xs)
    have O1 := Lib.hid (Fld.one (repF F xs))
    clear hd
    cases hb : firstBad F xs with
    | none =>
      have HB := Lib.hid hb
      clear hb
      have e1 : repI (-1) F xs = (-1) := by simp [repI, HB.out]
      have e2 : repC F xs = 0 := by simp [repC, HB.out]
      go_wp2_with (first
        | ((with_reducible refine gate_dst (N := 2) rfl ?_); go_must (refine M.out.ev_new rfl (by first | (go_simp; done) | (go_simp; rfl)) ?_); intro g2 w2 m; simp only [List.cons_append, List.nil_append] at m; have M := Lib.hid m; clear m)
        | ((with_reducible refine gate_dst (N := 18) rfl ?_); go_must (refine M.out.ev_ldw 0 _ _ rfl rfl rfl Tryz.underlying29 rfl (by first | exact sz29 | (rw [S1.out]; exact sz29) | (rw [S2.out]; exact sz29) | (rw [S3.out]; exact sz29)) rfl ?_))
        | ((with_reducible refine gate_dst (N := 8) rfl ?_); go_must (refine M.out.ev_new rfl (by first | (go_simp; done) | (go_simp; rfl)) ?_); intro g8 w8 m; simp only [List.cons_append, List.nil_append] at m; have M := Lib.hid m; clear m)
        | ((with_reducible refine gate_dst (N := 9) rfl ?_); go_must (refine M.out.ev_new rfl (by first | (go_simp; done) | (go_simp; rfl)) ?_); intro g9 w9 m; simp only [List.cons_append, List.nil_append] at m; have M := Lib.hid m; clear m)
        | ((with_reducible refine gate_store (x := .tmp 8) rfl ?_); go_must (refine M.out.ev_stw 1 _ _ _ rfl rfl rfl rfl _ rfl (by first | rfl | (simp only [S1.out]; rfl) | (simp only [S1.out, S2.out]; rfl) | (simp only [S3.out]; rfl) | (simp only [S1.out, S2.out, S3.out]; rfl)) (by first | exact sz29 | (rw [S1.out]; exact sz29) | (rw [S2.out]; exact sz29) | (rw [S3.out]; exact sz29)) (by first | exact ints_one _ _ | exact Fld.one _ | exact O1.out | rfl | (simp [Value.oneCell']; done)) rfl ?_); intro wn m; simp only [List.set_cons_succ, List.set_cons_zero, List.setIfInBounds_toArray] at m; have M := Lib.hid m; clear m)
        | ((with_reducible refine gate_store (x := .tmp 9) rfl ?_); go_must (refine M.out.ev_stw 2 _ _ _ rfl rfl rfl rfl _ rfl (by first | rfl | (simp only [S1.out]; rfl) | (simp only [S1.out, S2.out]; rfl) | (simp only [S3.out]; rfl) | (simp only [S1.out, S2.out, S3.out]; rfl)) (by first | exact sz36 | (rw [S1.out]; exact sz36) | (rw [S2.out]; exact sz36) | (rw [S3.out]; exact sz36)) (by first | exact ints_one _ _ | exact Fld.one _ | exact O1.out | rfl | (simp [Value.oneCell']; done)) rfl ?_); intro wn m; simp only [List.set_cons_succ, List.set_cons_zero, List.setIfInBounds_toArray] at m; have M := Lib.hid m; clear m)
        | (go_at_call 38; go_must (refine (l07Diary_any _ F hF A c xs.length _ (M.out.blk 0 rfl)).mono ?_); rintro e w_ ⟨rfl, rfl⟩)
        | (go_at_call 39; go_must (refine (l07Replay_any F HG.out A c xs HX.out hn _ (M.out.sl HS.out)).mono ?_); rintro e w_ ⟨rfl, N_⟩; have m := M.out.join N_; clear N_; simp only [List.cons_append, List.nil_append, List.append_nil] at m; have M := Lib.hid m; clear m); rw [e1, e2])
      go_ret3
      refine ⟨?_, M.out.take 0⟩
      simp only [wrongOf, HD.out, HB.out]
      rfl
    | some p =>
      have hc := firstBad_code hb
      have HB := Lib.hid hb
      clear hb
      have e1 : repI (-1) F xs = (p.1 : Int) := by simp [repI, HB.out]
      have e2 : repC F xs = p.2 := by simp [repC, HB.out]
      have hcc : (p.2 == 0) = false := by simp [hc]
      have h0 : ¬ ((p.1 : Int) < 0) := by omega
      go_wp2_with (first
        | ((with_reducible refine gate_dst (N := 2) rfl ?_); go_must (refine M.out.ev_new rfl (by first | (go_simp; done) | (go_simp; rfl)) ?_); intro g2 w2 m; simp only [List.cons_append, List.nil_append] at m; have M := Lib.hid m; clear m)
        | ((with_reducible refine gate_dst (N := 18) rfl ?_); go_must (refine M.out.ev_ldw 0 _ _ rfl rfl rfl Tryz.underlying29 rfl (by first | exact sz29 | (rw [S1.out]; exact sz29) | (rw [S2.out]; exact sz29) | (rw [S3.out]; exact sz29)) rfl ?_))
        | ((with_reducible refine gate_dst (N := 8) rfl ?_); go_must (refine M.out.ev_new rfl (by first | (go_simp; done) | (go_simp; rfl)) ?_); intro g8 w8 m; simp only [List.cons_append, List.nil_append] at m; have M := Lib.hid m; clear m)
        | ((with_reducible refine gate_dst (N := 9) rfl ?_); go_must (refine M.out.ev_new rfl (by first | (go_simp; done) | (go_simp; rfl)) ?_); intro g9 w9 m; simp only [List.cons_append, List.nil_append] at m; have M := Lib.hid m; clear m)
        | ((with_reducible refine gate_store (x := .tmp 8) rfl ?_); go_must (refine M.out.ev_stw 1 _ _ _ rfl rfl rfl rfl _ rfl (by first | rfl | (simp only [S1.out]; rfl) | (simp only [S1.out, S2.out]; rfl) | (simp only [S3.out]; rfl) | (simp only [S1.out, S2.out, S3.out]; rfl)) (by first | exact sz29 | (rw [S1.out]; exact sz29) | (rw [S2.out]; exact sz29) | (rw [S3.out]; exact sz29)) (by first | exact ints_one _ _ | exact Fld.one _ | exact O1.out | rfl | (simp [Value.oneCell']; done)) rfl ?_); intro wn m; simp only [List.set_cons_succ, List.set_cons_zero, List.setIfInBounds_toArray] at m; have M := Lib.hid m; clear m)
        | ((with_reducible refine gate_store (x := .tmp 9) rfl ?_); go_must (refine M.out.ev_stw 2 _ _ _ rfl rfl rfl rfl _ rfl (by first | rfl | (simp only [S1.out]; rfl) | (simp only [S1.out, S2.out]; rfl) | (simp only [S3.out]; rfl) | (simp only [S1.out, S2.out, S3.out]; rfl)) (by first | exact sz36 | (rw [S1.out]; exact sz36) | (rw [S2.out]; exact sz36) | (rw [S3.out]; exact sz36)) (by first | exact ints_one _ _ | exact Fld.one _ | exact O1.out | rfl | (simp [Value.oneCell']; done)) rfl ?_); intro wn m; simp only [List.set_cons_succ, List.set_cons_zero, List.setIfInBounds_toArray] at m; have M := Lib.hid m; clear m)
        | (go_at_call 38; go_must (refine (l07Diary_any _ F hF A c xs.length _ (M.out.blk 0 rfl)).mono ?_); rintro e w_ ⟨rfl, rfl⟩)
        | (go_at_call 39; go_must (refine (l07Replay_any F HG.out A c xs HX.out hn _ (M.out.sl HS.out)).mono ?_); rintro e w_ ⟨rfl, N_⟩; have m := M.out.join N_; clear N_; simp only [List.cons_append, List.nil_append, List.append_nil] at m; have M := Lib.hid m; clear m); rw [e1, e2])
      go_ret3
      refine ⟨?_, M.out.take 0⟩
      simp only [wrongOf, HD.out, HB.out]
      rfl
  · have HD := Lib.hid hd
    have hdd : (diaryOf F xs.length != 0) = true := by simp [hd]
    clear hd
    go_wp2_with (first
      | ((with_reducible refine gate_dst (N := 2) rfl ?_); go_must (refine M.out.ev_new rfl (by first | (go_simp; done) | (go_simp; rfl)) ?_); intro g2 w2 m; simp only [List.cons_append, List.nil_append] at m; have M := Lib.hid m; clear m)
      | ((with_reducible refine gate_dst (N := 18) rfl ?_); go_must (refine M.out.ev_ldw 0 _ _ rfl rfl rfl Tryz.underlying29 rfl (by first | exact sz29 | (rw [S1.out]; exact sz29) | (rw [S2.out]; exact sz29) | (rw [S3.out]; exact sz29)) rfl ?_))
      | ((with_reducible refine gate_dst (N := 8) rfl ?_); go_must (refine M.out.ev_new rfl (by first | (go_simp; done) | (go_simp; rfl)) ?_); intro g8 w8 m; simp only [List.cons_append, List.nil_append] at m; have M := Lib.hid m; clear m)
      | ((with_reducible refine gate_dst (N := 9) rfl ?_); go_must (refine M.out.ev_new rfl (by first | (go_simp; done) | (go_simp; rfl)) ?_); intro g9 w9 m; simp only [List.cons_append, List.nil_append] at m; have M := Lib.hid m; clear m)
      | ((with_reducible refine gate_store (x := .tmp 8) rfl ?_); go_must (refine M.out.ev_stw 1 _ _ _ rfl rfl rfl rfl _ rfl (by first | rfl | (simp only [S1.out]; rfl) | (simp only [S1.out, S2.out]; rfl) | (simp only [S3.out]; rfl) | (simp only [S1.out, S2.out, S3.out]; rfl)) (by first | exact sz29 | (rw [S1.out]; exact sz29) | (rw [S2.out]; exact sz29) | (rw [S3.out]; exact sz29)) (by first | exact ints_one _ _ | exact Fld.one _ | exact O1.out | rfl | (simp [Value.oneCell']; done)) rfl ?_); intro wn m; simp only [List.set_cons_succ, List.set_cons_zero, List.setIfInBounds_toArray] at m; have M := Lib.hid m; clear m)
      | ((with_reducible refine gate_store (x := .tmp 9) rfl ?_); go_must (refine M.out.ev_stw 2 _ _ _ rfl rfl rfl rfl _ rfl (by first | rfl | (simp only [S1.out]; rfl) | (simp only [S1.out, S2.out]; rfl) | (simp only [S3.out]; rfl) | (simp only [S1.out, S2.out, S3.out]; rfl)) (by first | exact sz36 | (rw [S1.out]; exact sz36) | (rw [S2.out]; exact sz36) | (rw [S3.out]; exact sz36)) (by first | exact ints_one _ _ | exact Fld.one _ | exact O1.out | rfl | (simp [Value.oneCell']; done)) rfl ?_); intro wn m; simp only [List.set_cons_succ, List.set_cons_zero, List.setIfInBounds_toArray] at m; have M := Lib.hid m; clear m)
      | (go_at_call 38; go_must (refine (l07Diary_any _ F hF A c xs.length _ (M.out.blk 0 rfl)).mono ?_); rintro e w_ ⟨rfl, rfl⟩))
    go_ret3
    refine ⟨?_, M.out.take 0⟩
    simp only [wrongOf, if_pos HD.out]
    rfl
end Go.Proofs.YtaepgjjmfopiiaaGreatDoor
