/- The first wrong entry of a diary: the walks, and the law's own. -/
import Derived.Test.YteecfclccfhdhaaReplay3
import Derived.Test.YteecfclccfhdhaaEntry
namespace Go.Proofs.Yteecfclccfhdhaa
set_option linter.unusedSimpArgs false
set_option linter.unusedVariables false
open Go.RowKit
attribute [local go_sem] cell?_mk frozen?_mk

/-- What is said of a field and a diary's length. -/
def diaryOf (F : Fld) (n : Nat) : Int := if F.valid = false then 1 else if 100 < n then 3 else 0
def wrongOf (F : Fld) (xs : List Entry) : Int × Int × Int :=
  if diaryOf F xs.length ≠ 0 then (0, 0, diaryOf F xs.length) else (firstBad F xs).elim (0, 0, 6) fun p => ((p.1 : Int), p.2, 0)
theorem firstBad_code {xs : List Entry} {F : Fld} {p : Nat × Int} (h : firstBad F xs = some p) : p.2 ≠ 0 := by
  induction xs generalizing F p with
  | nil => cases h
  | cons x r ih =>
    simp only [firstBad] at h
    split at h
    · rename_i hc
      injection h with h
      subst h
      exact hc
    · cases hr : firstBad (F.made x) r with
      | none => rw [hr] at h; cases h
      | some q =>
        rw [hr] at h
        injection h with h
        subst h
        exact ih (p := q) hr

set_option maxRecDepth 100000 in
set_option maxHeartbeats 1000000 in
theorem l07Diary_any (b : Nat) {t : TypeId} (F : Fld) (hF : F.ok) (A : Option Addr) (c n : Nat) (w : World) (hb : Blk w b t F.cells) :
    Calls Try.prog 105 #[.pointer (some ⟨b, 0, none⟩), .slice A n c] w fun e w' => e = .returned (.int .i64 (diaryOf F n)) ∧ w = w' := by
  have HV := Lib.hid (Bool.eq_false_or_eq_true F.valid)
  go_enter Try.func105, Try.ntmps105
  rcases HV.out with hv | hv
  · by_cases hn : 100 < n
    · go_wp2_with (first
        | (go_at_call 135; go_must (refine (l01Ok_any b F hF _ hb).mono ?_); rintro e w_ ⟨rfl, rfl⟩; rw [hv]))
      go_ret
      exact ⟨ret_int (by simp [diaryOf, hv, hn]), rfl⟩
    · go_wp2_with (first
        | (go_at_call 135; go_must (refine (l01Ok_any b F hF _ hb).mono ?_); rintro e w_ ⟨rfl, rfl⟩; rw [hv]))
      go_ret
      exact ⟨ret_int (by simp [diaryOf, hv, hn]), rfl⟩
  · go_wp2_with (first
      | (go_at_call 135; go_must (refine (l01Ok_any b F hF _ hb).mono ?_); rintro e w_ ⟨rfl, rfl⟩; rw [hv]))
    go_ret
    exact ⟨ret_int (by simp [diaryOf, hv]), rfl⟩

set_option maxRecDepth 100000 in
set_option maxHeartbeats 1000000 in
theorem diaryCode_any (b : Nat) {t : TypeId} (F : Fld) (hF : F.ok) (A : Option Addr) (c n : Nat) (w : World) (hb : Blk w b t F.cells) :
    Calls Try.prog 108 #[.pointer (some ⟨b, 0, none⟩), .slice A n c] w fun e w' => e = .returned (.int .i64 (diaryOf F n)) ∧ Mem w w' [] := by
  have M := Lib.hid (Mem.start w)
  have HB := Lib.hid hb
  have HV := Lib.hid (Bool.eq_false_or_eq_true F.valid)
  have S1 := Lib.hid (Fld.size hF.toLen)
  clear hb
  have hc0 := HB.out.cellv F.cell0
  go_enter Try.func108, Try.ntmps108
  rcases HV.out with hv | hv
  · by_cases hn : 100 < n
    · go_wp2_with (first
        | ((with_reducible refine gate_dst (N := 8) rfl ?_); go_must (refine M.out.ev_lda _ _ rfl rfl HB.out Try.underlying32 rfl (by rw [S1.out]; exact sz32) rfl ?_))
        | (go_at_call 117; go_must (refine (ValidField_any F hF _).mono ?_); rintro e w_ ⟨rfl, N_⟩; have m := M.out.join N_; clear N_; simp only [List.cons_append, List.nil_append, List.append_nil] at m; have M := Lib.hid m; clear m; rw [hv]))
      go_ret
      exact ⟨ret_int (by simp [diaryOf, hv, hn]), M.out.take 0⟩
    · go_wp2_with (first
        | ((with_reducible refine gate_dst (N := 8) rfl ?_); go_must (refine M.out.ev_lda _ _ rfl rfl HB.out Try.underlying32 rfl (by rw [S1.out]; exact sz32) rfl ?_))
        | (go_at_call 117; go_must (refine (ValidField_any F hF _).mono ?_); rintro e w_ ⟨rfl, N_⟩; have m := M.out.join N_; clear N_; simp only [List.cons_append, List.nil_append, List.append_nil] at m; have M := Lib.hid m; clear m; rw [hv]))
      go_ret
      exact ⟨ret_int (by simp [diaryOf, hv, hn]), M.out.take 0⟩
  · go_wp2_with (first
      | ((with_reducible refine gate_dst (N := 8) rfl ?_); go_must (refine M.out.ev_lda _ _ rfl rfl HB.out Try.underlying32 rfl (by rw [S1.out]; exact sz32) rfl ?_))
      | (go_at_call 117; go_must (refine (ValidField_any F hF _).mono ?_); rintro e w_ ⟨rfl, N_⟩; have m := M.out.join N_; clear N_; simp only [List.cons_append, List.nil_append, List.append_nil] at m; have M := Lib.hid m; clear m; rw [hv]))
    go_ret
    exact ⟨ret_int (by simp [diaryOf, hv]), M.out.take 0⟩

theorem repF_size {F : Fld} (hF : F.good) (xs : List Entry) : (repF F xs).cells.size = 202 := by
  unfold repF
  cases hb : firstBad F xs with
  | some p => exact Fld.size Fld.z_len
  | none =>
    have : ∀ (xs : List Entry) (F : Fld), F.len → (F.thru xs).len := by
      intro xs
      induction xs with
      | nil => intro F h; exact h
      | cons x r ih => intro F h; exact ih (F.made x) (Fld.withSeed_len h _ _)
    exact Fld.size (this xs F hF.ok.toLen)
theorem repS_size (F : Fld) (xs : List Entry) : (ints .i64 (repS F xs)).size = 4 := by
  unfold repS
  split
  · rfl
  · rw [ints_size, sumsOf_len]
end Go.Proofs.Yteecfclccfhdhaa
