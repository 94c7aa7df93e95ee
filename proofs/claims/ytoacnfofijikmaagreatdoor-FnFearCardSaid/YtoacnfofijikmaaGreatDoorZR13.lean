/- Texts of a proof, laid together: Aims, Longest, FearQ, SameS, EqI, Same. -/
import Derived.Test.YtoacnfofijikmaaGreatDoorZR11
import Derived.Test.YtoacnfofijikmaaGreatDoorZR12
import Derived.Test.YtoacnfofijikmaaGreatDoorZR05
import Derived.Test.YtoacnfofijikmaaGreatDoorZR09
import Derived.Test.YtoacnfofijikmaaGreatDoorZR10
import Derived.Test.YtoacnfofijikmaaGreatDoorZR02
import Derived.Test.YtoacnfofijikmaaGreatDoorZR06
namespace Go.Proofs.YtoacnfofijikmaaGreatDoor
set_option linter.unusedSimpArgs false
set_option linter.unusedVariables false
open Go.RowKit
attribute [local go_sem] cell?_mk frozen?_mk

set_option maxRecDepth 100000 in
set_option maxHeartbeats 2000000 in
theorem soilOf_any (g : Nat) {t : TypeId} (F : Fld) (hF : F.ok) (c : Cs) (hc : c.ok) (w : World) (hb : Blk w g t F.cells) :
    Calls Tryz.prog 76 #[.pointer (some ⟨g, 0, none⟩), .agg c.cells] w fun e w' => e = .returned (.agg (c.both (ofKd F 0)).cells) ∧ Mem w w' [] := by
  have M := Lib.hid (Mem.start w)
  have HB := Lib.hid hb
  have O1 := Lib.hid (Cs.one (c.both (ofKd F 0)))
  clear hb
  go_enter Tryz.func76, Tryz.ntmps76
  go_wp2_with (first
    | ((with_reducible refine gate_dst (N := 3) rfl ?_); go_must (refine M.out.ev_new rfl (by first | (go_simp; done) | (go_simp; rfl)) ?_); intro g3 w3 m; simp only [List.cons_append, List.nil_append] at m; have M := Lib.hid m; clear m)
    | ((with_reducible refine gate_dst (N := 4) rfl ?_); go_must (refine M.out.ev_new rfl (by first | (go_simp; done) | (go_simp; rfl)) ?_); intro g4 w4 m; simp only [List.cons_append, List.nil_append] at m; have M := Lib.hid m; clear m)
    | ((with_reducible refine gate_dst (N := 5) rfl ?_); go_must (refine M.out.ev_ldw 0 _ _ rfl rfl rfl Tryz.underlying44 rfl (by first | exact sz44 | (rw [S1.out]; exact sz44) | (rw [S2.out]; exact sz44) | (rw [S3.out]; exact sz44)) rfl ?_))
    | ((with_reducible refine gate_store (x := .tmp 4) rfl ?_); go_must (refine M.out.ev_stw 1 _ _ _ rfl rfl rfl rfl _ rfl (by first | rfl | (simp only [S1.out]; rfl) | (simp only [S1.out, S2.out]; rfl) | (simp only [S3.out]; rfl) | (simp only [S1.out, S2.out, S3.out]; rfl)) (by first | exact sz44 | (rw [S1.out]; exact sz44) | (rw [S2.out]; exact sz44) | (rw [S3.out]; exact sz44)) (by first | exact ints_one _ _ | exact Fld.one _ | exact O1.out | rfl | (simp [Value.oneCell']; done)) rfl ?_); intro wn m; simp only [List.set_cons_succ, List.set_cons_zero, List.setIfInBounds_toArray] at m; have M := Lib.hid m; clear m)
    )
  refine region_any (by kernel_rfl) ?_
  have m := M.out.drew
  clear M
  have M := Lib.hid m
  clear m
  refine takeD (i := 1) (v := ?v0) 6 rfl (by kernel_rfl) (by kernel_rfl) (by kernel_rfl) (fun _ _ _ h => h) rfl (Or.inl ⟨by first | rfl | (go_simp; done), ?y0⟩) ?r0
  case' y0 =>
    intro w
    go_simp
    try with_reducible rfl
  case' r0 =>
    try simp only [Act.put, List.setIfInBounds_toArray, List.set_cons_succ, List.set_cons_zero]
    refine any2k 0 2 (by kernel_rfl) rfl rfl (fun K hK => ?x1_1) (fun K hK => ?x1_2)
    case' x1_2 =>
      go_wp2_with (first | ((with_reducible refine gate_dst (N := 5) rfl ?_); go_must (refine M.out.ev_ldw 0 _ _ rfl rfl rfl Tryz.underlying44 rfl (by first | exact sz44 | (rw [S1.out]; exact sz44) | (rw [S2.out]; exact sz44) | (rw [S3.out]; exact sz44)) rfl ?_)) | ((with_reducible refine gate_store (x := .tmp 4) rfl ?_); go_must (refine M.out.ev_stw 1 _ _ _ rfl rfl rfl rfl _ rfl (by first | rfl | (simp only [S1.out]; rfl) | (simp only [S1.out, S2.out]; rfl) | (simp only [S3.out]; rfl) | (simp only [S1.out, S2.out, S3.out]; rfl)) (by first | exact sz44 | (rw [S1.out]; exact sz44) | (rw [S2.out]; exact sz44) | (rw [S3.out]; exact sz44)) (by first | exact ints_one _ _ | exact Fld.one _ | exact O1.out | rfl | (simp [Value.oneCell']; done)) rfl ?_); intro wn m; simp only [List.set_cons_succ, List.set_cons_zero, List.setIfInBounds_toArray] at m; have M := Lib.hid m; clear m) | (go_at_call 103; go_must (refine (ofKind_any g F hF 0 _ (M.out.arg HB.out)).mono ?_); rintro e w_ ⟨rfl, N_⟩; have m := M.out.join N_; clear N_; simp only [List.cons_append, List.nil_append, List.append_nil] at m; have M := Lib.hid m; clear m) | (go_at_call 102; go_must (refine (BothOf_any c (ofKd F 0) hc (ofKd_ok F 0) _).mono ?_); rintro e w_ ⟨rfl, N_⟩; have m := M.out.join N_; clear N_; simp only [List.cons_append, List.nil_append, List.append_nil] at m; have M := Lib.hid m; clear m))
      refine onward_normal (hK _ _ ?_)
      clear hK K
      try simp only [Act.put, List.getElem_toArray, List.getElem_cons_succ, List.getElem_cons_zero, List.setIfInBounds_toArray, List.set_cons_succ, List.set_cons_zero]
      refine any1k 0 (by kernel_rfl) rfl (fun K hK => ?_)
      go_wp2_with (first | ((with_reducible refine gate_dst (N := 5) rfl ?_); go_must (refine M.out.ev_ldw 0 _ _ rfl rfl rfl Tryz.underlying44 rfl (by first | exact sz44 | (rw [S1.out]; exact sz44) | (rw [S2.out]; exact sz44) | (rw [S3.out]; exact sz44)) rfl ?_)) | ((with_reducible refine gate_store (x := .tmp 4) rfl ?_); go_must (refine M.out.ev_stw 1 _ _ _ rfl rfl rfl rfl _ rfl (by first | rfl | (simp only [S1.out]; rfl) | (simp only [S1.out, S2.out]; rfl) | (simp only [S3.out]; rfl) | (simp only [S1.out, S2.out, S3.out]; rfl)) (by first | exact sz44 | (rw [S1.out]; exact sz44) | (rw [S2.out]; exact sz44) | (rw [S3.out]; exact sz44)) (by first | exact ints_one _ _ | exact Fld.one _ | exact O1.out | rfl | (simp [Value.oneCell']; done)) rfl ?_); intro wn m; simp only [List.set_cons_succ, List.set_cons_zero, List.setIfInBounds_toArray] at m; have M := Lib.hid m; clear m) | (go_at_call 103; go_must (refine (ofKind_any g F hF 0 _ (M.out.arg HB.out)).mono ?_); rintro e w_ ⟨rfl, N_⟩; have m := M.out.join N_; clear N_; simp only [List.cons_append, List.nil_append, List.append_nil] at m; have M := Lib.hid m; clear m) | (go_at_call 102; go_must (refine (BothOf_any c (ofKd F 0) hc (ofKd_ok F 0) _).mono ?_); rintro e w_ ⟨rfl, N_⟩; have m := M.out.join N_; clear N_; simp only [List.cons_append, List.nil_append, List.append_nil] at m; have M := Lib.hid m; clear m))
      refine onward_normal (hK _ _ ?_)
      clear hK K
      try simp only [Act.put, List.getElem_toArray, List.getElem_cons_succ, List.getElem_cons_zero, List.setIfInBounds_toArray, List.set_cons_succ, List.set_cons_zero]
      refine any1k 3 (by kernel_rfl) rfl (fun K hK => ?_)
      go_wp2_with (first | ((with_reducible refine gate_dst (N := 5) rfl ?_); go_must (refine M.out.ev_ldw 0 _ _ rfl rfl rfl Tryz.underlying44 rfl (by first | exact sz44 | (rw [S1.out]; exact sz44) | (rw [S2.out]; exact sz44) | (rw [S3.out]; exact sz44)) rfl ?_)) | ((with_reducible refine gate_store (x := .tmp 4) rfl ?_); go_must (refine M.out.ev_stw 1 _ _ _ rfl rfl rfl rfl _ rfl (by first | rfl | (simp only [S1.out]; rfl) | (simp only [S1.out, S2.out]; rfl) | (simp only [S3.out]; rfl) | (simp only [S1.out, S2.out, S3.out]; rfl)) (by first | exact sz44 | (rw [S1.out]; exact sz44) | (rw [S2.out]; exact sz44) | (rw [S3.out]; exact sz44)) (by first | exact ints_one _ _ | exact Fld.one _ | exact O1.out | rfl | (simp [Value.oneCell']; done)) rfl ?_); intro wn m; simp only [List.set_cons_succ, List.set_cons_zero, List.setIfInBounds_toArray] at m; have M := Lib.hid m; clear m) | (go_at_call 103; go_must (refine (ofKind_any g F hF 0 _ (M.out.arg HB.out)).mono ?_); rintro e w_ ⟨rfl, N_⟩; have m := M.out.join N_; clear N_; simp only [List.cons_append, List.nil_append, List.append_nil] at m; have M := Lib.hid m; clear m) | (go_at_call 102; go_must (refine (BothOf_any c (ofKd F 0) hc (ofKd_ok F 0) _).mono ?_); rintro e w_ ⟨rfl, N_⟩; have m := M.out.join N_; clear N_; simp only [List.cons_append, List.nil_append, List.append_nil] at m; have M := Lib.hid m; clear m))
      refine onward_normal (hK _ _ ?_)
      clear hK K
      try simp only [Act.put, List.getElem_toArray, List.getElem_cons_succ, List.getElem_cons_zero, List.setIfInBounds_toArray, List.set_cons_succ, List.set_cons_zero]
      refine any1k 4 (by kernel_rfl) rfl (fun K hK => ?_)
      go_wp2_with (first | ((with_reducible refine gate_dst (N := 5) rfl ?_); go_must (refine M.out.ev_ldw 0 _ _ rfl rfl rfl Tryz.underlying44 rfl (by first | exact sz44 | (rw [S1.out]; exact sz44) | (rw [S2.out]; exact sz44) | (rw [S3.out]; exact sz44)) rfl ?_)) | ((with_reducible refine gate_store (x := .tmp 4) rfl ?_); go_must (refine M.out.ev_stw 1 _ _ _ rfl rfl rfl rfl _ rfl (by first | rfl | (simp only [S1.out]; rfl) | (simp only [S1.out, S2.out]; rfl) | (simp only [S3.out]; rfl) | (simp only [S1.out, S2.out, S3.out]; rfl)) (by first | exact sz44 | (rw [S1.out]; exact sz44) | (rw [S2.out]; exact sz44) | (rw [S3.out]; exact sz44)) (by first | exact ints_one _ _ | exact Fld.one _ | exact O1.out | rfl | (simp [Value.oneCell']; done)) rfl ?_); intro wn m; simp only [List.set_cons_succ, List.set_cons_zero, List.setIfInBounds_toArray] at m; have M := Lib.hid m; clear m) | (go_at_call 103; go_must (refine (ofKind_any g F hF 0 _ (M.out.arg HB.out)).mono ?_); rintro e w_ ⟨rfl, N_⟩; have m := M.out.join N_; clear N_; simp only [List.cons_append, List.nil_append, List.append_nil] at m; have M := Lib.hid m; clear m) | (go_at_call 102; go_must (refine (BothOf_any c (ofKd F 0) hc (ofKd_ok F 0) _).mono ?_); rintro e w_ ⟨rfl, N_⟩; have m := M.out.join N_; clear N_; simp only [List.cons_append, List.nil_append, List.append_nil] at m; have M := Lib.hid m; clear m))
      refine onward_normal (hK _ _ ?_)
      clear hK K
      try simp only [Act.put, List.getElem_toArray, List.getElem_cons_succ, List.getElem_cons_zero, List.setIfInBounds_toArray, List.set_cons_succ, List.set_cons_zero]
      refine wpAny_done (by kernel_rfl) ?_ _
    case' x1_1 =>
      go_wp2_with (first | ((with_reducible refine gate_dst (N := 5) rfl ?_); go_must (refine M.out.ev_ldw 0 _ _ rfl rfl rfl Tryz.underlying44 rfl (by first | exact sz44 | (rw [S1.out]; exact sz44) | (rw [S2.out]; exact sz44) | (rw [S3.out]; exact sz44)) rfl ?_)) | ((with_reducible refine gate_store (x := .tmp 4) rfl ?_); go_must (refine M.out.ev_stw 1 _ _ _ rfl rfl rfl rfl _ rfl (by first | rfl | (simp only [S1.out]; rfl) | (simp only [S1.out, S2.out]; rfl) | (simp only [S3.out]; rfl) | (simp only [S1.out, S2.out, S3.out]; rfl)) (by first | exact sz44 | (rw [S1.out]; exact sz44) | (rw [S2.out]; exact sz44) | (rw [S3.out]; exact sz44)) (by first | exact ints_one _ _ | exact Fld.one _ | exact O1.out | rfl | (simp [Value.oneCell']; done)) rfl ?_); intro wn m; simp only [List.set_cons_succ, List.set_cons_zero, List.setIfInBounds_toArray] at m; have M := Lib.hid m; clear m) | (go_at_call 103; go_must (refine (ofKind_any g F hF 0 _ (M.out.arg HB.out)).mono ?_); rintro e w_ ⟨rfl, N_⟩; have m := M.out.join N_; clear N_; simp only [List.cons_append, List.nil_append, List.append_nil] at m; have M := Lib.hid m; clear m) | (go_at_call 102; go_must (refine (BothOf_any c (ofKd F 0) hc (ofKd_ok F 0) _).mono ?_); rintro e w_ ⟨rfl, N_⟩; have m := M.out.join N_; clear N_; simp only [List.cons_append, List.nil_append, List.append_nil] at m; have M := Lib.hid m; clear m))
      refine onward_normal (hK _ _ ?_)
      clear hK K
      try simp only [Act.put, List.getElem_toArray, List.getElem_cons_succ, List.getElem_cons_zero, List.setIfInBounds_toArray, List.set_cons_succ, List.set_cons_zero]
      refine any1k 2 (by kernel_rfl) rfl (fun K hK => ?_)
      go_wp2_with (first | ((with_reducible refine gate_dst (N := 5) rfl ?_); go_must (refine M.out.ev_ldw 0 _ _ rfl rfl rfl Tryz.underlying44 rfl (by first | exact sz44 | (rw [S1.out]; exact sz44) | (rw [S2.out]; exact sz44) | (rw [S3.out]; exact sz44)) rfl ?_)) | ((with_reducible refine gate_store (x := .tmp 4) rfl ?_); go_must (refine M.out.ev_stw 1 _ _ _ rfl rfl rfl rfl _ rfl (by first | rfl | (simp only [S1.out]; rfl) | (simp only [S1.out, S2.out]; rfl) | (simp only [S3.out]; rfl) | (simp only [S1.out, S2.out, S3.out]; rfl)) (by first | exact sz44 | (rw [S1.out]; exact sz44) | (rw [S2.out]; exact sz44) | (rw [S3.out]; exact sz44)) (by first | exact ints_one _ _ | exact Fld.one _ | exact O1.out | rfl | (simp [Value.oneCell']; done)) rfl ?_); intro wn m; simp only [List.set_cons_succ, List.set_cons_zero, List.setIfInBounds_toArray] at m; have M := Lib.hid m; clear m) | (go_at_call 103; go_must (refine (ofKind_any g F hF 0 _ (M.out.arg HB.out)).mono ?_); rintro e w_ ⟨rfl, N_⟩; have m := M.out.join N_; clear N_; simp only [List.cons_append, List.nil_append, List.append_nil] at m; have M := Lib.hid m; clear m) | (go_at_call 102; go_must (refine (BothOf_any c (ofKd F 0) hc (ofKd_ok F 0) _).mono ?_); rintro e w_ ⟨rfl, N_⟩; have m := M.out.join N_; clear N_; simp only [List.cons_append, List.nil_append, List.append_nil] at m; have M := Lib.hid m; clear m))
      refine onward_normal (hK _ _ ?_)
      clear hK K
      try simp only [Act.put, List.getElem_toArray, List.getElem_cons_succ, List.getElem_cons_zero, List.setIfInBounds_toArray, List.set_cons_succ, List.set_cons_zero]
      refine any1k 3 (by kernel_rfl) rfl (fun K hK => ?_)
      go_wp2_with (first | ((with_reducible refine gate_dst (N := 5) rfl ?_); go_must (refine M.out.ev_ldw 0 _ _ rfl rfl rfl Tryz.underlying44 rfl (by first | exact sz44 | (rw [S1.out]; exact sz44) | (rw [S2.out]; exact sz44) | (rw [S3.out]; exact sz44)) rfl ?_)) | ((with_reducible refine gate_store (x := .tmp 4) rfl ?_); go_must (refine M.out.ev_stw 1 _ _ _ rfl rfl rfl rfl _ rfl (by first | rfl | (simp only [S1.out]; rfl) | (simp only [S1.out, S2.out]; rfl) | (simp only [S3.out]; rfl) | (simp only [S1.out, S2.out, S3.out]; rfl)) (by first | exact sz44 | (rw [S1.out]; exact sz44) | (rw [S2.out]; exact sz44) | (rw [S3.out]; exact sz44)) (by first | exact ints_one _ _ | exact Fld.one _ | exact O1.out | rfl | (simp [Value.oneCell']; done)) rfl ?_); intro wn m; simp only [List.set_cons_succ, List.set_cons_zero, List.setIfInBounds_toArray] at m; have M := Lib.hid m; clear m) | (go_at_call 103; go_must (refine (ofKind_any g F hF 0 _ (M.out.arg HB.out)).mono ?_); rintro e w_ ⟨rfl, N_⟩; have m := M.out.join N_; clear N_; simp only [List.cons_append, List.nil_append, List.append_nil] at m; have M := Lib.hid m; clear m) | (go_at_call 102; go_must (refine (BothOf_any c (ofKd F 0) hc (ofKd_ok F 0) _).mono ?_); rintro e w_ ⟨rfl, N_⟩; have m := M.out.join N_; clear N_; simp only [List.cons_append, List.nil_append, List.append_nil] at m; have M := Lib.hid m; clear m))
      refine onward_normal (hK _ _ ?_)
      clear hK K
      try simp only [Act.put, List.getElem_toArray, List.getElem_cons_succ, List.getElem_cons_zero, List.setIfInBounds_toArray, List.set_cons_succ, List.set_cons_zero]
      refine any1k 4 (by kernel_rfl) rfl (fun K hK => ?_)
      go_wp2_with (first | ((with_reducible refine gate_dst (N := 5) rfl ?_); go_must (refine M.out.ev_ldw 0 _ _ rfl rfl rfl Tryz.underlying44 rfl (by first | exact sz44 | (rw [S1.out]; exact sz44) | (rw [S2.out]; exact sz44) | (rw [S3.out]; exact sz44)) rfl ?_)) | ((with_reducible refine gate_store (x := .tmp 4) rfl ?_); go_must (refine M.out.ev_stw 1 _ _ _ rfl rfl rfl rfl _ rfl (by first | rfl | (simp only [S1.out]; rfl) | (simp only [S1.out, S2.out]; rfl) | (simp only [S3.out]; rfl) | (simp only [S1.out, S2.out, S3.out]; rfl)) (by first | exact sz44 | (rw [S1.out]; exact sz44) | (rw [S2.out]; exact sz44) | (rw [S3.out]; exact sz44)) (by first | exact ints_one _ _ | exact Fld.one _ | exact O1.out | rfl | (simp [Value.oneCell']; done)) rfl ?_); intro wn m; simp only [List.set_cons_succ, List.set_cons_zero, List.setIfInBounds_toArray] at m; have M := Lib.hid m; clear m) | (go_at_call 103; go_must (refine (ofKind_any g F hF 0 _ (M.out.arg HB.out)).mono ?_); rintro e w_ ⟨rfl, N_⟩; have m := M.out.join N_; clear N_; simp only [List.cons_append, List.nil_append, List.append_nil] at m; have M := Lib.hid m; clear m) | (go_at_call 102; go_must (refine (BothOf_any c (ofKd F 0) hc (ofKd_ok F 0) _).mono ?_); rintro e w_ ⟨rfl, N_⟩; have m := M.out.join N_; clear N_; simp only [List.cons_append, List.nil_append, List.append_nil] at m; have M := Lib.hid m; clear m))
      refine onward_normal (hK _ _ ?_)
      clear hK K
      try simp only [Act.put, List.getElem_toArray, List.getElem_cons_succ, List.getElem_cons_zero, List.setIfInBounds_toArray, List.set_cons_succ, List.set_cons_zero]
      refine wpAny_done (by kernel_rfl) ?_ _
  all_goals
    go_wp2
    exact ret_cell rfl (M.out.blk 1 rfl) Tryz.underlying44 rfl sz44 rfl ⟨rfl, M.out.take 0⟩
/-- The targets that count. -/
def aimAt (F : Fld) (c : Cs) (k : Nat) : Bool := (F.has k && (F.kind k == 0)) && c.has k
def aims (F : Fld) (c : Cs) (n : Nat) : List Nat := (List.range n).filter (aimAt F c)
theorem aims_eq (F : Fld) (c : Cs) : (c.both (ofKd F 0)).all = aims F c 100 := by
  unfold Cs.all Cs.below aims
  apply List.filter_congr
  intro k hk
  rw [List.mem_range] at hk
  rw [Cs.both_has _ _ hk, ofKd_has F 0 hk, aimAt, Bool.and_comm]
theorem aims_len (F : Fld) (c : Cs) (n : Nat) : (aims F c n).length ≤ n := by
  have := List.length_filter_le (aimAt F c) (List.range n)
  rwa [List.length_range] at this
theorem aims_lt {F : Fld} {c : Cs} {n k : Nat} (h : k ∈ aims F c n) : k < n ∧ aimAt F c k = true := by
  simpa [aims] using h
end Go.Proofs.YtoacnfofijikmaaGreatDoor
namespace Go.Proofs.YtoacnfofijikmaaGreatDoor
set_option linter.unusedSimpArgs false
set_option linter.unusedVariables false
open Go.RowKit
attribute [local go_sem] cell?_mk frozen?_mk

def leastDays (xs : List Scarecrow) (least : Int) (ks : List Nat) : Int := ks.foldl (fun (d : Int) (k : Nat) => min d (daysOf xs k least)) 1000
theorem leastDays_snoc (xs : List Scarecrow) (least : Int) (ks : List Nat) (k : Nat) : leastDays xs least (ks ++ [k]) = min (leastDays xs least ks) (daysOf xs k least) := by simp [leastDays]
def longRes (F : Fld) (xs : List Scarecrow) (c : Cs) (least : Int) : Int × Int := if safeCode F xs least = 0 then (leastDays xs least (aims F c 100), 0) else (0, safeCode F xs least)
set_option maxRecDepth 100000 in
set_option maxHeartbeats 2000000 in
theorem impl_LongestSafe_any (F : Fld) (hF : F.ok) (A : Option Addr) (n : Nat) (xs : List Scarecrow) (hx : ∀ x ∈ xs, x.ok) (hl : xs.length ≤ 1048576) (hc : xs.length ≤ n) (hn : n ≤ 9223372036854775807) (hA : A = none → n = 0) (c : Cs) (hcs : c.ok) (least : Int) (w : World) (hs : Sl w 3 A xs.length (flat Scarecrow.vals xs)) :
    Calls Tryz.prog 28 #[.agg F.cells, .slice A xs.length n, .agg c.cells, .int .i64 least] w fun e w' =>
      e = .returned (.tuple #[.int .i64 (longRes F xs c least).1, .int .i64 (longRes F xs c least).2]) ∧ Mem w w' [] := by
  have M := Lib.hid (Mem.start w)
  have HX := Lib.hid hx
  have HS := Lib.hid hs
  have HF := Lib.hid hF
  have S1 := Lib.hid (Fld.size hF.toLen)
  have hm : xs.length ≤ 9223372036854775807 := by omega
  have HSC := Lib.hid (show scCode F xs (inB least 1 1000) = safeCode F xs least from rfl)
  clear hx hs hF
  by_cases hd : safeCode F xs least = 0
  · obtain ⟨h1, h2, h3⟩ := scCode_0 hd
    have HP := Lib.hid (scOk_plain h2)
    obtain ⟨l0, l1⟩ := inB_iff.1 h3
    have HD := Lib.hid hd
    have hdd : (safeCode F xs least != 0) = false := by simp [hd]
    clear h1 h2 h3 hd
    go_enter Tryz.func28, Tryz.ntmps28
    go_wp2_with (first
      | ((with_reducible refine gate_dst (N := 4) rfl ?_); go_must (refine M.out.ev_new rfl (by first | (go_simp; done) | (go_simp; rfl)) ?_); intro g4 w4 m; simp only [List.cons_append, List.nil_append] at m; have M := Lib.hid m; clear m)
      | ((with_reducible refine gate_dst (N := 6) rfl ?_); go_must (refine M.out.ev_new rfl (by first | (go_simp; done) | (go_simp; rfl)) ?_); intro g6 w6 m; simp only [List.cons_append, List.nil_append] at m; have M := Lib.hid m; clear m)
      | ((with_reducible refine gate_dst (N := 7) rfl ?_); go_must (refine M.out.ev_new rfl (by first | (go_simp; done) | (go_simp; rfl)) ?_); intro g7 w7 m; simp only [List.cons_append, List.nil_append] at m; have M := Lib.hid m; clear m)
      | ((with_reducible refine gate_dst (N := 20) rfl ?_); go_must (refine M.out.ev_ldw 1 _ _ rfl rfl rfl Tryz.underlying44 rfl (by first | exact sz44 | (rw [S1.out]; exact sz44) | (rw [S2.out]; exact sz44) | (rw [S3.out]; exact sz44)) rfl ?_))
      | ((with_reducible refine gate_dst (N := 31) rfl ?_); go_must (refine M.out.ev_ld 2 _ _ rfl rfl rfl Tryz.underlying2 rfl rfl (by first | assumption | rfl) ?_))
      | (go_at_call 45; go_must (refine (scaresCode_any _ F HF.out A n xs HX.out hc hn 74 _ (inB least 1 1000) _ (M.out.blk 0 rfl) (M.out.sl HS.out) (fun _ _ => by go_simp) (fun _ w1 m1 => longestPower_any _ least w1 ((M.out.join m1).blk 2 rfl))).mono ?_); rintro e w_ ⟨rfl, N_⟩; have m := M.out.join N_; clear N_; simp only [List.cons_append, List.nil_append, List.append_nil] at m; have M := Lib.hid m; clear m; rw [HSC.out])
      | (go_at_call 76; go_must (refine (soilOf_any _ F HF.out c hcs _ (M.out.blk 0 rfl)).mono ?_); rintro e w_ ⟨rfl, N_⟩; have m := M.out.join N_; clear N_; simp only [List.cons_append, List.nil_append, List.append_nil] at m; have M := Lib.hid m; clear m)
      | (go_at_call 75; go_must (refine (ListOf_any _ (Cs.both_ok hcs) _).mono ?_); rw [aims_eq]; rintro e w_ ⟨A_, c_, rfl, hc_, N_⟩; have m := M.out.join N_; clear N_; simp only [List.cons_append, List.nil_append, List.append_nil] at m; have M := Lib.hid m; clear m)
      )
    go_loopw [11, 24] (fun u v wr => ∃ k : Nat, k ≤ (aims F c 100).length ∧ v = .int .i64 k ∧ u = .int .i64 (leastDays xs least ((aims F c 100).take k)) ∧ Mem w wr [.blk g4 29 F.cells, .blk g6 44 c.cells, .blk g7 2 #[.int .i64 least], .row (.slice A_ (aims F c 100).length c_) 2 1 (aims F c 100).length (flat one64 (aims F c 100))])
      (fun _ v _ => (aims F c 100).length - (intOf v).toNat)
    case atStart => exact ⟨0, by omega, rfl, rfl, M.out⟩
    case round =>
      clear M
      obtain ⟨k, hk, rfl, rfl, m⟩ := hrel
      have M := Lib.hid m
      clear m
      have hal := aims_len F c 100
      by_cases hlt : k < (aims F c 100).length
      · obtain ⟨b, off, hbo, hr⟩ := (M.out.slof 3 rfl).2 (by omega)
        subst hbo
        have hxk : (aims F c 100)[k]? = some (aims F c 100)[k] := List.getElem?_eq_getElem hlt
        have hmem := (aims_lt (List.getElem_mem hlt)).1
        obtain ⟨j, hj⟩ : ∃ j, j = (aims F c 100)[k] := ⟨_, rfl⟩
        have R := range_at one64_len hr hxk
        have HT := Lib.hid (show (aims F c 100).take (k + 1) = (aims F c 100).take k ++ [j] by rw [List.take_succ_eq_append_getElem hlt, hj])
        rw [← hj] at R hmem
        have x0 : wr.cell? ⟨b, off + k, none⟩ = some (.int .i64 j) := by
          have := R 0 _ rfl
          simpa [nat64] using this
        have i0 : (0 : Int) ≤ (j : Int) := by omega
        clear hr hxk R hj
        obtain ⟨D, hD⟩ : ∃ D, D = leastDays xs least ((aims F c 100).take k) := ⟨_, rfl⟩
        have HDD := Lib.hid hD
        rw [← hD]
        clear hD
        rcases Int.lt_trichotomy D (daysOf xs j least) with h | h | h <;>
        · go_wp2_with (first
            | ((with_reducible refine gate_dst (N := 4) rfl ?_); go_must (refine M.out.ev_new rfl (by first | (go_simp; done) | (go_simp; rfl)) ?_); intro g4 w4 m; simp only [List.cons_append, List.nil_append] at m; have M := Lib.hid m; clear m)
            | ((with_reducible refine gate_dst (N := 6) rfl ?_); go_must (refine M.out.ev_new rfl (by first | (go_simp; done) | (go_simp; rfl)) ?_); intro g6 w6 m; simp only [List.cons_append, List.nil_append] at m; have M := Lib.hid m; clear m)
            | ((with_reducible refine gate_dst (N := 7) rfl ?_); go_must (refine M.out.ev_new rfl (by first | (go_simp; done) | (go_simp; rfl)) ?_); intro g7 w7 m; simp only [List.cons_append, List.nil_append] at m; have M := Lib.hid m; clear m)
            | ((with_reducible refine gate_dst (N := 20) rfl ?_); go_must (refine M.out.ev_ldw 1 _ _ rfl rfl rfl Tryz.underlying44 rfl (by first | exact sz44 | (rw [S1.out]; exact sz44) | (rw [S2.out]; exact sz44) | (rw [S3.out]; exact sz44)) rfl ?_))
            | ((with_reducible refine gate_dst (N := 31) rfl ?_); go_must (refine M.out.ev_ld 2 _ _ rfl rfl rfl Tryz.underlying2 rfl rfl (by first | assumption | rfl) ?_))
            | (go_at_call 69; go_must (refine (daysSafe_any A n xs HP.out hl hc hA j least i0 (by omega) l0 _ (M.out.sl HS.out)).mono ?_); rintro e w_ ⟨rfl, N_⟩; have m := M.out.join N_; clear N_; simp only [List.cons_append, List.nil_append, List.append_nil] at m; have M := Lib.hid m; clear m)
            )
          refine ⟨⟨k + 1, by omega, by go_num, ?_, M.out⟩, by simp [intOf]; omega⟩
          rw [HT.out, leastDays_snoc, ← HDD.out]
          first | (congr 1; done) | (congr 1; omega)
      · obtain rfl : k = (aims F c 100).length := by omega
        rw [List.take_length]
        go_wp2
        go_ret2
        refine ⟨?_, M.out.take 0⟩
        simp only [longRes, HD.out]
        rfl
  · have HD := Lib.hid hd
    have hdd : (safeCode F xs least != 0) = true := by simp [hd]
    clear hd
    go_enter Tryz.func28, Tryz.ntmps28
    go_wp2_with (first
      | ((with_reducible refine gate_dst (N := 4) rfl ?_); go_must (refine M.out.ev_new rfl (by first | (go_simp; done) | (go_simp; rfl)) ?_); intro g4 w4 m; simp only [List.cons_append, List.nil_append] at m; have M := Lib.hid m; clear m)
      | ((with_reducible refine gate_dst (N := 6) rfl ?_); go_must (refine M.out.ev_new rfl (by first | (go_simp; done) | (go_simp; rfl)) ?_); intro g6 w6 m; simp only [List.cons_append, List.nil_append] at m; have M := Lib.hid m; clear m)
      | ((with_reducible refine gate_dst (N := 7) rfl ?_); go_must (refine M.out.ev_new rfl (by first | (go_simp; done) | (go_simp; rfl)) ?_); intro g7 w7 m; simp only [List.cons_append, List.nil_append] at m; have M := Lib.hid m; clear m)
      | ((with_reducible refine gate_dst (N := 20) rfl ?_); go_must (refine M.out.ev_ldw 1 _ _ rfl rfl rfl Tryz.underlying44 rfl (by first | exact sz44 | (rw [S1.out]; exact sz44) | (rw [S2.out]; exact sz44) | (rw [S3.out]; exact sz44)) rfl ?_))
      | ((with_reducible refine gate_dst (N := 31) rfl ?_); go_must (refine M.out.ev_ld 2 _ _ rfl rfl rfl Tryz.underlying2 rfl rfl (by first | assumption | rfl) ?_))
      | (go_at_call 45; go_must (refine (scaresCode_any _ F HF.out A n xs HX.out hc hn 74 _ (inB least 1 1000) _ (M.out.blk 0 rfl) (M.out.sl HS.out) (fun _ _ => by go_simp) (fun _ w1 m1 => longestPower_any _ least w1 ((M.out.join m1).blk 2 rfl))).mono ?_); rintro e w_ ⟨rfl, N_⟩; have m := M.out.join N_; clear N_; simp only [List.cons_append, List.nil_append, List.append_nil] at m; have M := Lib.hid m; clear m; rw [HSC.out])
      )
    go_ret2
    refine ⟨?_, M.out.take 0⟩
    simp only [longRes, if_neg HD.out]
    rfl
end Go.Proofs.YtoacnfofijikmaaGreatDoor
namespace Go.Proofs.YtoacnfofijikmaaGreatDoor
set_option linter.unusedSimpArgs false
set_option linter.unusedVariables false
open Go.RowKit

theorem standsAt_aged (xs : List Scarecrow) (d : Nat) (c : Int) : standsAt (agedAll xs d) c = standsAt xs c := by
  unfold standsAt agedAll
  rw [List.any_map]
  rfl
theorem scOk_aged {F : Fld} {xs : List Scarecrow} (h : scOk F xs = true) (d : Nat) : scOk F (agedAll xs d) = true := by
  have hl := (scOk_iff.1 h).1
  have ha := (scOk_iff.1 h).2
  have hlen : (agedAll xs d).length = xs.length := by unfold agedAll; rw [List.length_map]
  refine scOk_of (by omega) fun j hj => ?_
  rw [hlen] at hj
  have := ha j hj
  unfold scAt at this ⊢
  have e1 : (agedAll xs d)[j]? = some (xs[j].older d) := by
    unfold agedAll
    rw [List.getElem?_map, List.getElem?_eq_getElem hj]
    rfl
  have e2 : (agedAll xs d).take j = agedAll (xs.take j) d := by unfold agedAll; rw [List.map_take]
  rw [List.getElem?_eq_getElem hj] at this
  rw [e1]
  simp only [Bool.and_eq_true] at this ⊢
  refine ⟨Scarecrow.older_plain this.1 (by omega), this.2.1, ?_⟩
  rw [e2]
  show (!standsAt (agedAll (xs.take j) d) xs[j].cell) = true
  rw [standsAt_aged]
  exact this.2.2
theorem scOk_one {F : Fld} {xs : List Scarecrow} (h : scOk F xs = true) {i : Nat} (hi : i < xs.length) : scOk F [xs[i]] = true := by
  have ha := (scOk_iff.1 h).2 i hi
  unfold scAt at ha
  rw [List.getElem?_eq_getElem hi] at ha
  simp only [Bool.and_eq_true] at ha
  refine scOk_of (by simp) fun j hj => ?_
  obtain rfl : j = 0 := by simp at hj; omega
  unfold scAt
  simp [ha.1, ha.2.1, standsAt]
theorem fear_b {x : Scarecrow} (hx : x.plain = true) {c : Int} (c0 : 0 ≤ c) (c1 : c ≤ 99) : 0 ≤ x.fear c ∧ x.fear c ≤ 1000 := by
  obtain ⟨⟨a0, a1⟩, ⟨b0, b1⟩, e0, e1⟩ := Scarecrow.plain_iff.1 hx
  have hs := sq_small a0 a1 c0 c1
  unfold Scarecrow.fear
  have hp : 0 ≤ x.power / 2 ^ (x.age / 3).toNat ∧ x.power / 2 ^ (x.age / 3).toNat ≤ 1000 := by
    have hpow : (0 : Int) < 2 ^ (x.age / 3).toNat := Int.pow_pos (by decide)
    exact ⟨Int.ediv_nonneg (by omega) (by omega), Int.le_trans (Int.ediv_le_self _ (by omega)) (by omega)⟩
  exact ⟨Int.ediv_nonneg hp.1 (by omega), Int.le_trans (Int.ediv_le_self _ hp.1) hp.2⟩
theorem fearAt_b {xs : List Scarecrow} (hx : ∀ x ∈ xs, x.plain = true) {c : Int} (c0 : 0 ≤ c) (c1 : c ≤ 99) : 0 ≤ fearAt xs c ∧ fearAt xs c ≤ 1000 := by
  have key : ∀ (ys : List Scarecrow) (m : Int), (∀ x ∈ ys, x.plain = true) → 0 ≤ m ∧ m ≤ 1000 → 0 ≤ ys.foldl (fun m x => big m (x.fear c)) m ∧ ys.foldl (fun m x => big m (x.fear c)) m ≤ 1000 := by
    intro ys
    induction ys with
    | nil => intro m _ h; exact h
    | cons x r ih =>
      intro m h hm
      rw [List.foldl_cons]
      refine ih _ (fun y hy => h y (List.mem_cons_of_mem _ hy)) ?_
      have := fear_b (h x (by simp)) c0 c1
      unfold big
      split <;> omega
  exact key xs 0 hx (by omega)
theorem fearsOf_at (xs : List Scarecrow) : ∀ (ks : List Nat) (acc : List Int) (k : Nat), acc.length = 100 → k < 100 → gi (ks.foldl (putFear xs) acc) k = if k ∈ ks then fearAt xs k else gi acc k
  | [], acc, k, _, _ => by simp
  | j :: r, acc, k, hl, hk => by
    rw [List.foldl_cons, fearsOf_at xs r _ k (by simp [putFear, hl]) hk]
    by_cases h : k ∈ r
    · rw [if_pos h, if_pos (List.mem_cons_of_mem _ h)]
    · rw [if_neg h]
      unfold putFear
      by_cases hjk : k = j
      · subst hjk
        rw [gi_set_self (by omega), if_pos (by simp)]
      · rw [gi_set_ne (fun e => hjk e.symm), if_neg (by simp [hjk, h])]
end Go.Proofs.YtoacnfofijikmaaGreatDoor
namespace Go.Proofs.YtoacnfofijikmaaGreatDoor
set_option linter.unusedSimpArgs false
set_option linter.unusedVariables false
open Go.RowKit
attribute [local go_sem] cell?_mk frozen?_mk
--ONES exact Scarecrow.one _

theorem sl_rangeScarecrow {w : World} {sz b off n k : Nat} {cs : List Value} (h : Sl w sz (some ⟨b, off, none⟩) n cs) (hn : k < n) : w.rangeAt b off cs := by
  obtain ⟨b1, o1, hB, hr⟩ := h.2 (by omega)
  cases hB
  exact hr
theorem neqScarecrow (x : Scarecrow) (w : World) : (binOp .neq 60 (.agg x.vals.toArray) (.agg x.vals.toArray)).run Tryz.prog w = .ok (.bool false) w := by
  have ui16 := Tryz.underlying26
  have ai16 := Tryz.isAgg26
  have zi16 := Tryz.sizeOf26
  have ui8 := Tryz.underlying24
  have ai8 := Tryz.isAgg24
  have zi8 := Tryz.sizeOf24
  have u4 := Tryz.underlying60
  unfold Scarecrow.vals
  obtain ⟨e0, e1, e2⟩ := x
  go_simp
set_option maxRecDepth 100000 in
set_option maxHeartbeats 2000000 in
theorem ScarecrowSame_any (A B : Option Addr) (c d : Nat) (xs : List Scarecrow) (w : World) (hl : xs.length ≤ 1048576) (hx : Sl w 3 A xs.length (flat Scarecrow.vals xs)) (hy : Sl w 3 B xs.length (flat Scarecrow.vals xs)) :
    Calls Tryz.prog 19 #[.slice A xs.length c, .slice B xs.length d] w fun e w' => e = .returned (.bool true) ∧ Mem w w' [] := by
  have M := Lib.hid (Mem.start w)
  have HX := Lib.hid hx
  have HY := Lib.hid hy
  clear hx hy
  go_enter Tryz.func19, Tryz.ntmps19
  go_wp2
  go_loopw [5] (fun v wr => ∃ k : Nat, k ≤ xs.length ∧ v = .int .i64 k ∧ Mem w wr [])
    (fun v _ => xs.length - (intOf v).toNat)
  case atStart => exact ⟨0, by omega, rfl, M.out⟩
  case round =>
    clear M
    obtain ⟨k, hk, rfl, m⟩ := hrel
    have M := Lib.hid m
    clear m
    by_cases hlt : k < xs.length
    · obtain ⟨b, off, rfl, _⟩ := HX.out.2 (by omega)
      obtain ⟨b2, off2, rfl, _⟩ := HY.out.2 (by omega)
      have HXK := Lib.hid (show xs[k]? = some xs[k] from List.getElem?_eq_getElem hlt)
      have i0 : (0 : Int) ≤ (k : Int) := by omega
      have i1 : (k : Int) < (xs.length : Int) := by omega
      obtain ⟨x, hx⟩ : ∃ x, x = xs[k] := ⟨_, rfl⟩
      rw [← hx] at HXK
      clear hx
      have heq := neqScarecrow x
      go_wp2
      refine region_anyH (fun w' => Mem w w' []) (by kernel_rfl) ?_
      have m := M.out.drew
      clear M
      have M := Lib.hid m
      clear m
      apply takeH (i := 0) 17 rfl (by kernel_rfl) (by kernel_rfl) (by kernel_rfl) (fun _ _ _ h => h) rfl (by first | exact M.out | exact M.out.take 0)
      case' hy =>
        refine Or.inl ⟨by first | rfl | (go_simp; done), ?_⟩
        intro w hS
        clear hS
        go_simp
        try with_reducible rfl
      try simp only [Act.put, List.getElem_toArray, List.getElem_cons_succ, List.getElem_cons_zero, List.setIfInBounds_toArray, List.set_cons_succ, List.set_cons_zero]
      apply takeH (i := 1) 18 rfl (by kernel_rfl) (by kernel_rfl) (by kernel_rfl) (fun _ _ _ h => h) rfl (by first | exact M.out | exact M.out.take 0)
      case' hy =>
        refine Or.inl ⟨by first | rfl | (go_simp; done), ?_⟩
        intro w hS
        clear hS
        go_simp
        try with_reducible rfl
      try simp only [Act.put, List.getElem_toArray, List.getElem_cons_succ, List.getElem_cons_zero, List.setIfInBounds_toArray, List.set_cons_succ, List.set_cons_zero]
      apply takeH (i := 2) 19 rfl (by kernel_rfl) (by kernel_rfl) (by kernel_rfl) (fun _ _ _ h => h) rfl (by first | exact M.out | exact M.out.take 0)
      case' hy =>
        refine Or.inl ⟨by first | rfl | (go_simp; done), ?_⟩
        intro w hS
        clear hS
        go_simp
        try with_reducible rfl
      try simp only [Act.put, List.getElem_toArray, List.getElem_cons_succ, List.getElem_cons_zero, List.setIfInBounds_toArray, List.set_cons_succ, List.set_cons_zero]
      apply takeH (i := 3) 20 rfl (by kernel_rfl) (by kernel_rfl) (by kernel_rfl) (fun _ _ _ h => h) rfl (by first | exact M.out | exact M.out.take 0)
      case' hy => exact yieldsIf_load_mid (by first | rfl | (go_simp; done)) _ _ rfl _ _ rfl _ _ (fun w' hS => range_at Scarecrow.vl (sl_rangeScarecrow (hS.sl HX.out) hlt) HXK.out) Tryz.underlying60 rfl sz60
      try simp only [Act.put, List.getElem_toArray, List.getElem_cons_succ, List.getElem_cons_zero, List.setIfInBounds_toArray, List.set_cons_succ, List.set_cons_zero]
      apply takeH (i := 4) 21 rfl (by kernel_rfl) (by kernel_rfl) (by kernel_rfl) (fun _ _ _ h => h) rfl (by first | exact M.out | exact M.out.take 0)
      case' hy =>
        refine Or.inl ⟨by first | rfl | (go_simp; done), ?_⟩
        intro w hS
        clear hS
        go_simp
        try with_reducible rfl
      try simp only [Act.put, List.getElem_toArray, List.getElem_cons_succ, List.getElem_cons_zero, List.setIfInBounds_toArray, List.set_cons_succ, List.set_cons_zero]
      apply takeH (i := 5) 22 rfl (by kernel_rfl) (by kernel_rfl) (by kernel_rfl) (fun _ _ _ h => h) rfl (by first | exact M.out | exact M.out.take 0)
      case' hy =>
        refine Or.inl ⟨by first | rfl | (go_simp; done), ?_⟩
        intro w hS
        clear hS
        go_simp
        try with_reducible rfl
      try simp only [Act.put, List.getElem_toArray, List.getElem_cons_succ, List.getElem_cons_zero, List.setIfInBounds_toArray, List.set_cons_succ, List.set_cons_zero]
      apply takeH (i := 6) 23 rfl (by kernel_rfl) (by kernel_rfl) (by kernel_rfl) (fun _ _ _ h => h) rfl (by first | exact M.out | exact M.out.take 0)
      case' hy =>
        refine Or.inl ⟨by first | rfl | (go_simp; done), ?_⟩
        intro w hS
        clear hS
        go_simp
        try with_reducible rfl
      try simp only [Act.put, List.getElem_toArray, List.getElem_cons_succ, List.getElem_cons_zero, List.setIfInBounds_toArray, List.set_cons_succ, List.set_cons_zero]
      apply takeH (i := 7) 24 rfl (by kernel_rfl) (by kernel_rfl) (by kernel_rfl) (fun _ _ _ h => h) rfl (by first | exact M.out | exact M.out.take 0)
      case' hy => exact yieldsIf_load_mid (by first | rfl | (go_simp; done)) _ _ rfl _ _ rfl _ _ (fun w' hS => range_at Scarecrow.vl (sl_rangeScarecrow (hS.sl HY.out) hlt) HXK.out) Tryz.underlying60 rfl sz60
      try simp only [Act.put, List.getElem_toArray, List.getElem_cons_succ, List.getElem_cons_zero, List.setIfInBounds_toArray, List.set_cons_succ, List.set_cons_zero]
      apply takeH (i := 8) 25 rfl (by kernel_rfl) (by kernel_rfl) (by kernel_rfl) (fun _ _ _ h => h) rfl (by first | exact M.out | exact M.out.take 0)
      case' hy =>
        refine Or.inl ⟨by first | rfl | (go_simp; done), ?_⟩
        intro w hS
        clear hS
        go_simp
        try with_reducible rfl
      try simp only [Act.put, List.getElem_toArray, List.getElem_cons_succ, List.getElem_cons_zero, List.setIfInBounds_toArray, List.set_cons_succ, List.set_cons_zero]
      refine wpAnyH_done (by kernel_rfl) ?_ _
      go_wp2
      exact ⟨⟨k + 1, by omega, by go_num, M.out⟩, by simp [intOf]; omega⟩
    · obtain rfl : k = xs.length := by omega
      go_wp2
      go_ret
      exact ⟨rfl, M.out⟩
end Go.Proofs.YtoacnfofijikmaaGreatDoor
namespace Go.Proofs.YtoacnfofijikmaaGreatDoor
set_option linter.unusedSimpArgs false
set_option linter.unusedVariables false
open Go.RowKit
attribute [local go_sem] cell?_mk frozen?_mk

end Go.Proofs.YtoacnfofijikmaaGreatDoor
namespace Go.Proofs.YtoacnfofijikmaaGreatDoor
set_option linter.unusedSimpArgs false
set_option linter.unusedVariables false
open Go.RowKit
attribute [local go_sem] cell?_mk frozen?_mk

set_option maxRecDepth 100000 in
set_option maxHeartbeats 1000000 in
theorem l00Same_any (A B : Option Addr) (c d : Nat) (ks : List Int) (w : World) (hl : ks.length ≤ 1048576) (hx : Sl w 1 A ks.length (flat oneI ks)) (hy : Sl w 1 B ks.length (flat oneI ks)) :
    Calls Tryz.prog 77 #[.slice A ks.length c, .slice B ks.length d] w fun e w' => e = .returned (.bool true) ∧ Mem w w' [] := by
  have M := Lib.hid (Mem.start w)
  have HX := Lib.hid hx
  have HY := Lib.hid hy
  clear hx hy
  go_enter Tryz.func77, Tryz.ntmps77
  go_wp2
  go_loopw [5] (fun v wr => ∃ k : Nat, k ≤ ks.length ∧ v = .int .i64 k ∧ Mem w wr [])
    (fun v _ => ks.length - (intOf v).toNat)
  case atStart => exact ⟨0, by omega, rfl, M.out⟩
  case round =>
    clear M
    obtain ⟨k, hk, rfl, m⟩ := hrel
    have M := Lib.hid m
    clear m
    by_cases hlt : k < ks.length
    · obtain ⟨b, off, rfl, hr⟩ := (M.out.sl HX.out).2 (by omega)
      obtain ⟨b2, off2, rfl, hr2⟩ := (M.out.sl HY.out).2 (by omega)
      have hxk : ks[k]? = some ks[k] := List.getElem?_eq_getElem hlt
      have x0 : wr.cell? ⟨b, off + k, none⟩ = some (.int .i64 ks[k]) := by simpa [oneI] using range_at oneI_len hr hxk 0 _ rfl
      have y0 : wr.cell? ⟨b2, off2 + k, none⟩ = some (.int .i64 ks[k]) := by simpa [oneI] using range_at oneI_len hr2 hxk 0 _ rfl
      have i0 : (0 : Int) ≤ (k : Int) := by omega
      have i1 : (k : Int) < (ks.length : Int) := by omega
      clear hr hr2 hxk
      go_wp2_with fail
      go_quiet (fail)
      have M := Lib.hid (M.out.drewN nq)
      go_wp2
      exact ⟨⟨k + 1, by omega, by go_num, M.out⟩, by simp [intOf]; omega⟩
    · obtain rfl : k = ks.length := by omega
      go_wp2
      go_ret
      exact ⟨rfl, M.out⟩
set_option maxRecDepth 100000 in
theorem f6big_any (A : Option Addr) (n c : Nat) (w : World) :
    Calls Tryz.prog 4 #[.slice A n c] w fun e w' => e = .returned (.bool (decide (4096 < n))) ∧ w = w' := by
  by_cases h : 4096 < n
  all_goals
    have h1 := h
    go_enter Tryz.func4, Tryz.ntmps4
    go_wp2
    go_ret
    refine ⟨?_, rfl⟩
    simp [h1]
    try omega
end Go.Proofs.YtoacnfofijikmaaGreatDoor
