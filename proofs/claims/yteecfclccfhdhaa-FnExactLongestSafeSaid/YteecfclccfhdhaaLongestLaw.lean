/- How many days all targets stay safe: the walk of the law. -/
import Derived.Test.YteecfclccfhdhaaLongest
namespace Go.Proofs.Yteecfclccfhdhaa
set_option linter.unusedSimpArgs false
set_option linter.unusedVariables false
open Go.RowKit
attribute [local go_sem] cell?_mk frozen?_mk

set_option maxRecDepth 100000 in
set_option maxHeartbeats 4000000 in
theorem lawLongestSafe_any (F : Fld) (hF : F.ok) (A : Option Addr) (n : Nat) (xs : List Scarecrow) (hx : ∀ x ∈ xs, x.ok) (hm : xs.length ≤ 9223372036854775807) (c : Cs) (hcs : c.ok) (least : Int) (w : World) (hs : Sl w 3 A xs.length (flat Scarecrow.vals xs)) :
    Calls Try.prog 12 #[.agg F.cells, .slice A xs.length n, .agg c.cells, .int .i64 least] w fun e w' => e = .returned (.bool true) ∧ Mem w w' [] := by
  have M := Lib.hid (Mem.start w)
  have HX := Lib.hid hx
  have HS := Lib.hid hs
  have S1 := Lib.hid (Fld.size hF.toLen)
  clear hx hs
  by_cases hl : xs.length ≤ 1048576
  · have hz : ¬ ((1048576 : Int) < xs.length) := by omega
    have hz2 : ¬ ((1048576 : Int) - xs.length < 0) := by omega
    go_enter Try.func12, Try.ntmps12
    go_wp2_with (first
      | ((with_reducible refine gate_dst (N := 4) rfl ?_); go_must (refine M.out.ev_new rfl (by first | (go_simp; done) | (go_simp; rfl)) ?_); intro g4 w4 m; simp only [List.cons_append, List.nil_append] at m; have M := Lib.hid m; clear m)
      | ((with_reducible refine gate_dst (N := 6) rfl ?_); go_must (refine M.out.ev_new rfl (by first | (go_simp; done) | (go_simp; rfl)) ?_); intro g6 w6 m; simp only [List.cons_append, List.nil_append] at m; have M := Lib.hid m; clear m)
      | ((with_reducible refine gate_dst (N := 21) rfl ?_); go_must (refine M.out.ev_ldw 0 _ _ rfl rfl rfl Try.underlying27 rfl (by first | exact sz27 | (rw [S1.out]; exact sz27) | (rw [S2.out]; exact sz27) | (rw [S3.out]; exact sz27)) rfl ?_))
      | ((with_reducible refine gate_dst (N := 25) rfl ?_); go_must (refine M.out.ev_ldw 1 _ _ rfl rfl rfl Try.underlying49 rfl (by first | exact sz49 | (rw [S1.out]; exact sz49) | (rw [S2.out]; exact sz49) | (rw [S3.out]; exact sz49)) rfl ?_))
      | ((with_reducible refine gate_dst (N := 34) rfl ?_); go_must (refine M.out.ev_ldw 0 _ _ rfl rfl rfl Try.underlying27 rfl (by first | exact sz27 | (rw [S1.out]; exact sz27) | (rw [S2.out]; exact sz27) | (rw [S3.out]; exact sz27)) rfl ?_))
      | ((with_reducible refine gate_dst (N := 37) rfl ?_); go_must (refine M.out.ev_ldw 1 _ _ rfl rfl rfl Try.underlying49 rfl (by first | exact sz49 | (rw [S1.out]; exact sz49) | (rw [S2.out]; exact sz49) | (rw [S3.out]; exact sz49)) rfl ?_))
      | (go_at_call 14; go_must (refine (szScarecrowS_any A xs.length n 1048576 _ (by omega) (by omega) hm).mono ?_); rintro e w_ ⟨rfl, rfl⟩; rw [if_neg hz])
      )
    refine region_any (by kernel_rfl) ?_
    have m := M.out.drew
    clear M
    have M := Lib.hid m
    clear m
    apply takeD (i := 2) 23 rfl (by kernel_rfl) (by kernel_rfl) (by kernel_rfl) (fun _ _ _ h => h) rfl
    case' hy =>
      refine Or.inl ⟨by first | rfl | (go_simp; done), ?_⟩
      intro w
      go_simp
      try with_reducible rfl
    try simp only [Act.put, List.setIfInBounds_toArray, List.set_cons_succ, List.set_cons_zero]
    apply takeD (i := 6) 27 rfl (by kernel_rfl) (by kernel_rfl) (by kernel_rfl) (fun _ _ _ h => h) rfl
    case' hy =>
      refine Or.inl ⟨by first | rfl | (go_simp; done), ?_⟩
      intro w
      go_simp
      try with_reducible rfl
    try simp only [Act.put, List.setIfInBounds_toArray, List.set_cons_succ, List.set_cons_zero]
    refine any2k 0 4 (by kernel_rfl) rfl rfl (fun K hK => ?_) (fun K hK => ?_)
    rotate_right 1
    case' _ =>
      go_wp2_with (first | ((with_reducible refine gate_dst (N := 21) rfl ?_); go_must (refine M.out.ev_ldw 0 _ _ rfl rfl rfl Try.underlying27 rfl (by first | exact sz27 | (rw [S1.out]; exact sz27) | (rw [S2.out]; exact sz27) | (rw [S3.out]; exact sz27)) rfl ?_)) | ((with_reducible refine gate_dst (N := 25) rfl ?_); go_must (refine M.out.ev_ldw 1 _ _ rfl rfl rfl Try.underlying49 rfl (by first | exact sz49 | (rw [S1.out]; exact sz49) | (rw [S2.out]; exact sz49) | (rw [S3.out]; exact sz49)) rfl ?_)) | (go_at_call 16; go_must (refine (toField_any F hF.toLen _).mono ?_); rintro e w_ ⟨rfl, hB_⟩; have M := Lib.hid (M.out.kept hB_); clear hB_) | (go_at_call 48; go_must (refine (toCells_any c _).mono ?_); rintro e w_ ⟨rfl, hB_⟩; have M := Lib.hid (M.out.kept hB_); clear hB_) | (go_at_call 17; go_must (refine (toScarecrowS_any A n xs _ hl (M.out.sl HS.out)).mono ?_); rintro e w_ ⟨A_, c_, rfl, hc_, N_⟩; have m := M.out.join N_; clear N_; simp only [List.cons_append, List.nil_append, List.append_nil] at m; have M := Lib.hid m; clear m) | (go_at_call 47; go_must (refine (spec_LongestSafe_any F hF _ _ xs HX.out hl hc_ (M.out.row_cap 2 rfl) (M.out.row_none 2 rfl) c hcs least _ (M.out.slof 2 rfl)).mono ?_); rintro e w_ ⟨rfl, N_⟩; have m := M.out.join N_; clear N_; simp only [List.cons_append, List.nil_append, List.append_nil] at m; have M := Lib.hid m; clear m))
      refine onward_normal (hK _ _ ?_)
      clear hK K
      try simp only [Act.put, List.getElem_toArray, List.getElem_cons_succ, List.getElem_cons_zero, List.setIfInBounds_toArray, List.set_cons_succ, List.set_cons_zero]
      refine any1k 0 (by kernel_rfl) rfl (fun K hK => ?_)
      go_wp2_with (first | ((with_reducible refine gate_dst (N := 21) rfl ?_); go_must (refine M.out.ev_ldw 0 _ _ rfl rfl rfl Try.underlying27 rfl (by first | exact sz27 | (rw [S1.out]; exact sz27) | (rw [S2.out]; exact sz27) | (rw [S3.out]; exact sz27)) rfl ?_)) | ((with_reducible refine gate_dst (N := 25) rfl ?_); go_must (refine M.out.ev_ldw 1 _ _ rfl rfl rfl Try.underlying49 rfl (by first | exact sz49 | (rw [S1.out]; exact sz49) | (rw [S2.out]; exact sz49) | (rw [S3.out]; exact sz49)) rfl ?_)) | (go_at_call 16; go_must (refine (toField_any F hF.toLen _).mono ?_); rintro e w_ ⟨rfl, hB_⟩; have M := Lib.hid (M.out.kept hB_); clear hB_) | (go_at_call 48; go_must (refine (toCells_any c _).mono ?_); rintro e w_ ⟨rfl, hB_⟩; have M := Lib.hid (M.out.kept hB_); clear hB_) | (go_at_call 17; go_must (refine (toScarecrowS_any A n xs _ hl (M.out.sl HS.out)).mono ?_); rintro e w_ ⟨A_, c_, rfl, hc_, N_⟩; have m := M.out.join N_; clear N_; simp only [List.cons_append, List.nil_append, List.append_nil] at m; have M := Lib.hid m; clear m) | (go_at_call 47; go_must (refine (spec_LongestSafe_any F hF _ _ xs HX.out hl hc_ (M.out.row_cap 2 rfl) (M.out.row_none 2 rfl) c hcs least _ (M.out.slof 2 rfl)).mono ?_); rintro e w_ ⟨rfl, N_⟩; have m := M.out.join N_; clear N_; simp only [List.cons_append, List.nil_append, List.append_nil] at m; have M := Lib.hid m; clear m))
      refine onward_normal (hK _ _ ?_)
      clear hK K
      try simp only [Act.put, List.getElem_toArray, List.getElem_cons_succ, List.getElem_cons_zero, List.setIfInBounds_toArray, List.set_cons_succ, List.set_cons_zero]
      refine any1k 1 (by kernel_rfl) rfl (fun K hK => ?_)
      go_wp2_with (first | ((with_reducible refine gate_dst (N := 21) rfl ?_); go_must (refine M.out.ev_ldw 0 _ _ rfl rfl rfl Try.underlying27 rfl (by first | exact sz27 | (rw [S1.out]; exact sz27) | (rw [S2.out]; exact sz27) | (rw [S3.out]; exact sz27)) rfl ?_)) | ((with_reducible refine gate_dst (N := 25) rfl ?_); go_must (refine M.out.ev_ldw 1 _ _ rfl rfl rfl Try.underlying49 rfl (by first | exact sz49 | (rw [S1.out]; exact sz49) | (rw [S2.out]; exact sz49) | (rw [S3.out]; exact sz49)) rfl ?_)) | (go_at_call 16; go_must (refine (toField_any F hF.toLen _).mono ?_); rintro e w_ ⟨rfl, hB_⟩; have M := Lib.hid (M.out.kept hB_); clear hB_) | (go_at_call 48; go_must (refine (toCells_any c _).mono ?_); rintro e w_ ⟨rfl, hB_⟩; have M := Lib.hid (M.out.kept hB_); clear hB_) | (go_at_call 17; go_must (refine (toScarecrowS_any A n xs _ hl (M.out.sl HS.out)).mono ?_); rintro e w_ ⟨A_, c_, rfl, hc_, N_⟩; have m := M.out.join N_; clear N_; simp only [List.cons_append, List.nil_append, List.append_nil] at m; have M := Lib.hid m; clear m) | (go_at_call 47; go_must (refine (spec_LongestSafe_any F hF _ _ xs HX.out hl hc_ (M.out.row_cap 2 rfl) (M.out.row_none 2 rfl) c hcs least _ (M.out.slof 2 rfl)).mono ?_); rintro e w_ ⟨rfl, N_⟩; have m := M.out.join N_; clear N_; simp only [List.cons_append, List.nil_append, List.append_nil] at m; have M := Lib.hid m; clear m))
      refine onward_normal (hK _ _ ?_)
      clear hK K
      try simp only [Act.put, List.getElem_toArray, List.getElem_cons_succ, List.getElem_cons_zero, List.setIfInBounds_toArray, List.set_cons_succ, List.set_cons_zero]
      refine any1k 3 (by kernel_rfl) rfl (fun K hK => ?_)
      go_wp2_with (first | ((with_reducible refine gate_dst (N := 21) rfl ?_); go_must (refine M.out.ev_ldw 0 _ _ rfl rfl rfl Try.underlying27 rfl (by first | exact sz27 | (rw [S1.out]; exact sz27) | (rw [S2.out]; exact sz27) | (rw [S3.out]; exact sz27)) rfl ?_)) | ((with_reducible refine gate_dst (N := 25) rfl ?_); go_must (refine M.out.ev_ldw 1 _ _ rfl rfl rfl Try.underlying49 rfl (by first | exact sz49 | (rw [S1.out]; exact sz49) | (rw [S2.out]; exact sz49) | (rw [S3.out]; exact sz49)) rfl ?_)) | (go_at_call 16; go_must (refine (toField_any F hF.toLen _).mono ?_); rintro e w_ ⟨rfl, hB_⟩; have M := Lib.hid (M.out.kept hB_); clear hB_) | (go_at_call 48; go_must (refine (toCells_any c _).mono ?_); rintro e w_ ⟨rfl, hB_⟩; have M := Lib.hid (M.out.kept hB_); clear hB_) | (go_at_call 17; go_must (refine (toScarecrowS_any A n xs _ hl (M.out.sl HS.out)).mono ?_); rintro e w_ ⟨A_, c_, rfl, hc_, N_⟩; have m := M.out.join N_; clear N_; simp only [List.cons_append, List.nil_append, List.append_nil] at m; have M := Lib.hid m; clear m) | (go_at_call 47; go_must (refine (spec_LongestSafe_any F hF _ _ xs HX.out hl hc_ (M.out.row_cap 2 rfl) (M.out.row_none 2 rfl) c hcs least _ (M.out.slof 2 rfl)).mono ?_); rintro e w_ ⟨rfl, N_⟩; have m := M.out.join N_; clear N_; simp only [List.cons_append, List.nil_append, List.append_nil] at m; have M := Lib.hid m; clear m))
      refine onward_normal (hK _ _ ?_)
      clear hK K
      try simp only [Act.put, List.getElem_toArray, List.getElem_cons_succ, List.getElem_cons_zero, List.setIfInBounds_toArray, List.set_cons_succ, List.set_cons_zero]
      refine any1k 5 (by kernel_rfl) rfl (fun K hK => ?_)
      go_wp2_with (first | ((with_reducible refine gate_dst (N := 21) rfl ?_); go_must (refine M.out.ev_ldw 0 _ _ rfl rfl rfl Try.underlying27 rfl (by first | exact sz27 | (rw [S1.out]; exact sz27) | (rw [S2.out]; exact sz27) | (rw [S3.out]; exact sz27)) rfl ?_)) | ((with_reducible refine gate_dst (N := 25) rfl ?_); go_must (refine M.out.ev_ldw 1 _ _ rfl rfl rfl Try.underlying49 rfl (by first | exact sz49 | (rw [S1.out]; exact sz49) | (rw [S2.out]; exact sz49) | (rw [S3.out]; exact sz49)) rfl ?_)) | (go_at_call 16; go_must (refine (toField_any F hF.toLen _).mono ?_); rintro e w_ ⟨rfl, hB_⟩; have M := Lib.hid (M.out.kept hB_); clear hB_) | (go_at_call 48; go_must (refine (toCells_any c _).mono ?_); rintro e w_ ⟨rfl, hB_⟩; have M := Lib.hid (M.out.kept hB_); clear hB_) | (go_at_call 17; go_must (refine (toScarecrowS_any A n xs _ hl (M.out.sl HS.out)).mono ?_); rintro e w_ ⟨A_, c_, rfl, hc_, N_⟩; have m := M.out.join N_; clear N_; simp only [List.cons_append, List.nil_append, List.append_nil] at m; have M := Lib.hid m; clear m) | (go_at_call 47; go_must (refine (spec_LongestSafe_any F hF _ _ xs HX.out hl hc_ (M.out.row_cap 2 rfl) (M.out.row_none 2 rfl) c hcs least _ (M.out.slof 2 rfl)).mono ?_); rintro e w_ ⟨rfl, N_⟩; have m := M.out.join N_; clear N_; simp only [List.cons_append, List.nil_append, List.append_nil] at m; have M := Lib.hid m; clear m))
      refine onward_normal (hK _ _ ?_)
      clear hK K
      try simp only [Act.put, List.getElem_toArray, List.getElem_cons_succ, List.getElem_cons_zero, List.setIfInBounds_toArray, List.set_cons_succ, List.set_cons_zero]
      refine any1k 7 (by kernel_rfl) rfl (fun K hK => ?_)
      go_wp2_with (first | ((with_reducible refine gate_dst (N := 21) rfl ?_); go_must (refine M.out.ev_ldw 0 _ _ rfl rfl rfl Try.underlying27 rfl (by first | exact sz27 | (rw [S1.out]; exact sz27) | (rw [S2.out]; exact sz27) | (rw [S3.out]; exact sz27)) rfl ?_)) | ((with_reducible refine gate_dst (N := 25) rfl ?_); go_must (refine M.out.ev_ldw 1 _ _ rfl rfl rfl Try.underlying49 rfl (by first | exact sz49 | (rw [S1.out]; exact sz49) | (rw [S2.out]; exact sz49) | (rw [S3.out]; exact sz49)) rfl ?_)) | (go_at_call 16; go_must (refine (toField_any F hF.toLen _).mono ?_); rintro e w_ ⟨rfl, hB_⟩; have M := Lib.hid (M.out.kept hB_); clear hB_) | (go_at_call 48; go_must (refine (toCells_any c _).mono ?_); rintro e w_ ⟨rfl, hB_⟩; have M := Lib.hid (M.out.kept hB_); clear hB_) | (go_at_call 17; go_must (refine (toScarecrowS_any A n xs _ hl (M.out.sl HS.out)).mono ?_); rintro e w_ ⟨A_, c_, rfl, hc_, N_⟩; have m := M.out.join N_; clear N_; simp only [List.cons_append, List.nil_append, List.append_nil] at m; have M := Lib.hid m; clear m) | (go_at_call 47; go_must (refine (spec_LongestSafe_any F hF _ _ xs HX.out hl hc_ (M.out.row_cap 2 rfl) (M.out.row_none 2 rfl) c hcs least _ (M.out.slof 2 rfl)).mono ?_); rintro e w_ ⟨rfl, N_⟩; have m := M.out.join N_; clear N_; simp only [List.cons_append, List.nil_append, List.append_nil] at m; have M := Lib.hid m; clear m))
      refine onward_normal (hK _ _ ?_)
      clear hK K
      try simp only [Act.put, List.getElem_toArray, List.getElem_cons_succ, List.getElem_cons_zero, List.setIfInBounds_toArray, List.set_cons_succ, List.set_cons_zero]
      refine any1k 8 (by kernel_rfl) rfl (fun K hK => ?_)
      go_wp2
      refine onward_normal (hK _ _ ?_)
      clear hK K
      try simp only [Act.put, List.getElem_toArray, List.getElem_cons_succ, List.getElem_cons_zero, List.setIfInBounds_toArray, List.set_cons_succ, List.set_cons_zero]
      apply takeD (i := 9) 29 rfl (by kernel_rfl) (by kernel_rfl) (by kernel_rfl) (fun _ _ _ h => h) rfl
      case' hy =>
        refine Or.inl ⟨by first | rfl | (go_simp; done), ?_⟩
        intro w
        go_simp
        try with_reducible rfl
      try simp only [Act.put, List.setIfInBounds_toArray, List.set_cons_succ, List.set_cons_zero]
      apply takeD (i := 10) 30 rfl (by kernel_rfl) (by kernel_rfl) (by kernel_rfl) (fun _ _ _ h => h) rfl
      case' hy =>
        refine Or.inl ⟨by first | rfl | (go_simp; done), ?_⟩
        intro w
        go_simp
        try with_reducible rfl
      try simp only [Act.put, List.setIfInBounds_toArray, List.set_cons_succ, List.set_cons_zero]
      refine any1k 11 (by kernel_rfl) rfl (fun K hK => ?_)
      go_wp2
      refine onward_normal (hK _ _ ?_)
      clear hK K
      try simp only [Act.put, List.getElem_toArray, List.getElem_cons_succ, List.getElem_cons_zero, List.setIfInBounds_toArray, List.set_cons_succ, List.set_cons_zero]
      refine any1k 12 (by kernel_rfl) rfl (fun K hK => ?_)
      go_wp2
      refine onward_normal (hK _ _ ?_)
      clear hK K
      try simp only [Act.put, List.getElem_toArray, List.getElem_cons_succ, List.getElem_cons_zero, List.setIfInBounds_toArray, List.set_cons_succ, List.set_cons_zero]
      refine wpAny_done (by kernel_rfl) ?_ _
    rotate_right 1
    case' _ =>
      go_wp2_with (first | ((with_reducible refine gate_dst (N := 21) rfl ?_); go_must (refine M.out.ev_ldw 0 _ _ rfl rfl rfl Try.underlying27 rfl (by first | exact sz27 | (rw [S1.out]; exact sz27) | (rw [S2.out]; exact sz27) | (rw [S3.out]; exact sz27)) rfl ?_)) | ((with_reducible refine gate_dst (N := 25) rfl ?_); go_must (refine M.out.ev_ldw 1 _ _ rfl rfl rfl Try.underlying49 rfl (by first | exact sz49 | (rw [S1.out]; exact sz49) | (rw [S2.out]; exact sz49) | (rw [S3.out]; exact sz49)) rfl ?_)) | (go_at_call 16; go_must (refine (toField_any F hF.toLen _).mono ?_); rintro e w_ ⟨rfl, hB_⟩; have M := Lib.hid (M.out.kept hB_); clear hB_) | (go_at_call 48; go_must (refine (toCells_any c _).mono ?_); rintro e w_ ⟨rfl, hB_⟩; have M := Lib.hid (M.out.kept hB_); clear hB_) | (go_at_call 17; go_must (refine (toScarecrowS_any A n xs _ hl (M.out.sl HS.out)).mono ?_); rintro e w_ ⟨A_, c_, rfl, hc_, N_⟩; have m := M.out.join N_; clear N_; simp only [List.cons_append, List.nil_append, List.append_nil] at m; have M := Lib.hid m; clear m) | (go_at_call 47; go_must (refine (spec_LongestSafe_any F hF _ _ xs HX.out hl hc_ (M.out.row_cap 2 rfl) (M.out.row_none 2 rfl) c hcs least _ (M.out.slof 2 rfl)).mono ?_); rintro e w_ ⟨rfl, N_⟩; have m := M.out.join N_; clear N_; simp only [List.cons_append, List.nil_append, List.append_nil] at m; have M := Lib.hid m; clear m))
      refine onward_normal (hK _ _ ?_)
      clear hK K
      try simp only [Act.put, List.getElem_toArray, List.getElem_cons_succ, List.getElem_cons_zero, List.setIfInBounds_toArray, List.set_cons_succ, List.set_cons_zero]
      refine any2k 1 4 (by kernel_rfl) rfl rfl (fun K hK => ?_) (fun K hK => ?_)
      rotate_right 1
      case' _ =>
        go_wp2_with (first | ((with_reducible refine gate_dst (N := 21) rfl ?_); go_must (refine M.out.ev_ldw 0 _ _ rfl rfl rfl Try.underlying27 rfl (by first | exact sz27 | (rw [S1.out]; exact sz27) | (rw [S2.out]; exact sz27) | (rw [S3.out]; exact sz27)) rfl ?_)) | ((with_reducible refine gate_dst (N := 25) rfl ?_); go_must (refine M.out.ev_ldw 1 _ _ rfl rfl rfl Try.underlying49 rfl (by first | exact sz49 | (rw [S1.out]; exact sz49) | (rw [S2.out]; exact sz49) | (rw [S3.out]; exact sz49)) rfl ?_)) | (go_at_call 16; go_must (refine (toField_any F hF.toLen _).mono ?_); rintro e w_ ⟨rfl, hB_⟩; have M := Lib.hid (M.out.kept hB_); clear hB_) | (go_at_call 48; go_must (refine (toCells_any c _).mono ?_); rintro e w_ ⟨rfl, hB_⟩; have M := Lib.hid (M.out.kept hB_); clear hB_) | (go_at_call 17; go_must (refine (toScarecrowS_any A n xs _ hl (M.out.sl HS.out)).mono ?_); rintro e w_ ⟨A_, c_, rfl, hc_, N_⟩; have m := M.out.join N_; clear N_; simp only [List.cons_append, List.nil_append, List.append_nil] at m; have M := Lib.hid m; clear m) | (go_at_call 47; go_must (refine (spec_LongestSafe_any F hF _ _ xs HX.out hl hc_ (M.out.row_cap 2 rfl) (M.out.row_none 2 rfl) c hcs least _ (M.out.slof 2 rfl)).mono ?_); rintro e w_ ⟨rfl, N_⟩; have m := M.out.join N_; clear N_; simp only [List.cons_append, List.nil_append, List.append_nil] at m; have M := Lib.hid m; clear m))
        refine onward_normal (hK _ _ ?_)
        clear hK K
        try simp only [Act.put, List.getElem_toArray, List.getElem_cons_succ, List.getElem_cons_zero, List.setIfInBounds_toArray, List.set_cons_succ, List.set_cons_zero]
        refine any1k 1 (by kernel_rfl) rfl (fun K hK => ?_)
        go_wp2_with (first | ((with_reducible refine gate_dst (N := 21) rfl ?_); go_must (refine M.out.ev_ldw 0 _ _ rfl rfl rfl Try.underlying27 rfl (by first | exact sz27 | (rw [S1.out]; exact sz27) | (rw [S2.out]; exact sz27) | (rw [S3.out]; exact sz27)) rfl ?_)) | ((with_reducible refine gate_dst (N := 25) rfl ?_); go_must (refine M.out.ev_ldw 1 _ _ rfl rfl rfl Try.underlying49 rfl (by first | exact sz49 | (rw [S1.out]; exact sz49) | (rw [S2.out]; exact sz49) | (rw [S3.out]; exact sz49)) rfl ?_)) | (go_at_call 16; go_must (refine (toField_any F hF.toLen _).mono ?_); rintro e w_ ⟨rfl, hB_⟩; have M := Lib.hid (M.out.kept hB_); clear hB_) | (go_at_call 48; go_must (refine (toCells_any c _).mono ?_); rintro e w_ ⟨rfl, hB_⟩; have M := Lib.hid (M.out.kept hB_); clear hB_) | (go_at_call 17; go_must (refine (toScarecrowS_any A n xs _ hl (M.out.sl HS.out)).mono ?_); rintro e w_ ⟨A_, c_, rfl, hc_, N_⟩; have m := M.out.join N_; clear N_; simp only [List.cons_append, List.nil_append, List.append_nil] at m; have M := Lib.hid m; clear m) | (go_at_call 47; go_must (refine (spec_LongestSafe_any F hF _ _ xs HX.out hl hc_ (M.out.row_cap 2 rfl) (M.out.row_none 2 rfl) c hcs least _ (M.out.slof 2 rfl)).mono ?_); rintro e w_ ⟨rfl, N_⟩; have m := M.out.join N_; clear N_; simp only [List.cons_append, List.nil_append, List.append_nil] at m; have M := Lib.hid m; clear m))
        refine onward_normal (hK _ _ ?_)
        clear hK K
        try simp only [Act.put, List.getElem_toArray, List.getElem_cons_succ, List.getElem_cons_zero, List.setIfInBounds_toArray, List.set_cons_succ, List.set_cons_zero]
        refine any1k 3 (by kernel_rfl) rfl (fun K hK => ?_)
        go_wp2_with (first | ((with_reducible refine gate_dst (N := 21) rfl ?_); go_must (refine M.out.ev_ldw 0 _ _ rfl rfl rfl Try.underlying27 rfl (by first | exact sz27 | (rw [S1.out]; exact sz27) | (rw [S2.out]; exact sz27) | (rw [S3.out]; exact sz27)) rfl ?_)) | ((with_reducible refine gate_dst (N := 25) rfl ?_); go_must (refine M.out.ev_ldw 1 _ _ rfl rfl rfl Try.underlying49 rfl (by first | exact sz49 | (rw [S1.out]; exact sz49) | (rw [S2.out]; exact sz49) | (rw [S3.out]; exact sz49)) rfl ?_)) | (go_at_call 16; go_must (refine (toField_any F hF.toLen _).mono ?_); rintro e w_ ⟨rfl, hB_⟩; have M := Lib.hid (M.out.kept hB_); clear hB_) | (go_at_call 48; go_must (refine (toCells_any c _).mono ?_); rintro e w_ ⟨rfl, hB_⟩; have M := Lib.hid (M.out.kept hB_); clear hB_) | (go_at_call 17; go_must (refine (toScarecrowS_any A n xs _ hl (M.out.sl HS.out)).mono ?_); rintro e w_ ⟨A_, c_, rfl, hc_, N_⟩; have m := M.out.join N_; clear N_; simp only [List.cons_append, List.nil_append, List.append_nil] at m; have M := Lib.hid m; clear m) | (go_at_call 47; go_must (refine (spec_LongestSafe_any F hF _ _ xs HX.out hl hc_ (M.out.row_cap 2 rfl) (M.out.row_none 2 rfl) c hcs least _ (M.out.slof 2 rfl)).mono ?_); rintro e w_ ⟨rfl, N_⟩; have m := M.out.join N_; clear N_; simp only [List.cons_append, List.nil_append, List.append_nil] at m; have M := Lib.hid m; clear m))
        refine onward_normal (hK _ _ ?_)
        clear hK K
        try simp only [Act.put, List.getElem_toArray, List.getElem_cons_succ, List.getElem_cons_zero, List.setIfInBounds_toArray, List.set_cons_succ, List.set_cons_zero]
        refine any1k 5 (by kernel_rfl) rfl (fun K hK => ?_)
        go_wp2_with (first | ((with_reducible refine gate_dst (N := 21) rfl ?_); go_must (refine M.out.ev_ldw 0 _ _ rfl rfl rfl Try.underlying27 rfl (by first | exact sz27 | (rw [S1.out]; exact sz27) | (rw [S2.out]; exact sz27) | (rw [S3.out]; exact sz27)) rfl ?_)) | ((with_reducible refine gate_dst (N := 25) rfl ?_); go_must (refine M.out.ev_ldw 1 _ _ rfl rfl rfl Try.underlying49 rfl (by first | exact sz49 | (rw [S1.out]; exact sz49) | (rw [S2.out]; exact sz49) | (rw [S3.out]; exact sz49)) rfl ?_)) | (go_at_call 16; go_must (refine (toField_any F hF.toLen _).mono ?_); rintro e w_ ⟨rfl, hB_⟩; have M := Lib.hid (M.out.kept hB_); clear hB_) | (go_at_call 48; go_must (refine (toCells_any c _).mono ?_); rintro e w_ ⟨rfl, hB_⟩; have M := Lib.hid (M.out.kept hB_); clear hB_) | (go_at_call 17; go_must (refine (toScarecrowS_any A n xs _ hl (M.out.sl HS.out)).mono ?_); rintro e w_ ⟨A_, c_, rfl, hc_, N_⟩; have m := M.out.join N_; clear N_; simp only [List.cons_append, List.nil_append, List.append_nil] at m; have M := Lib.hid m; clear m) | (go_at_call 47; go_must (refine (spec_LongestSafe_any F hF _ _ xs HX.out hl hc_ (M.out.row_cap 2 rfl) (M.out.row_none 2 rfl) c hcs least _ (M.out.slof 2 rfl)).mono ?_); rintro e w_ ⟨rfl, N_⟩; have m := M.out.join N_; clear N_; simp only [List.cons_append, List.nil_append, List.append_nil] at m; have M := Lib.hid m; clear m))
        refine onward_normal (hK _ _ ?_)
        clear hK K
        try simp only [Act.put, List.getElem_toArray, List.getElem_cons_succ, List.getElem_cons_zero, List.setIfInBounds_toArray, List.set_cons_succ, List.set_cons_zero]
        refine any1k 7 (by kernel_rfl) rfl (fun K hK => ?_)
        go_wp2_with (first | ((with_reducible refine gate_dst (N := 21) rfl ?_); go_must (refine M.out.ev_ldw 0 _ _ rfl rfl rfl Try.underlying27 rfl (by first | exact sz27 | (rw [S1.out]; exact sz27) | (rw [S2.out]; exact sz27) | (rw [S3.out]; exact sz27)) rfl ?_)) | ((with_reducible refine gate_dst (N := 25) rfl ?_); go_must (refine M.out.ev_ldw 1 _ _ rfl rfl rfl Try.underlying49 rfl (by first | exact sz49 | (rw [S1.out]; exact sz49) | (rw [S2.out]; exact sz49) | (rw [S3.out]; exact sz49)) rfl ?_)) | (go_at_call 16; go_must (refine (toField_any F hF.toLen _).mono ?_); rintro e w_ ⟨rfl, hB_⟩; have M := Lib.hid (M.out.kept hB_); clear hB_) | (go_at_call 48; go_must (refine (toCells_any c _).mono ?_); rintro e w_ ⟨rfl, hB_⟩; have M := Lib.hid (M.out.kept hB_); clear hB_) | (go_at_call 17; go_must (refine (toScarecrowS_any A n xs _ hl (M.out.sl HS.out)).mono ?_); rintro e w_ ⟨A_, c_, rfl, hc_, N_⟩; have m := M.out.join N_; clear N_; simp only [List.cons_append, List.nil_append, List.append_nil] at m; have M := Lib.hid m; clear m) | (go_at_call 47; go_must (refine (spec_LongestSafe_any F hF _ _ xs HX.out hl hc_ (M.out.row_cap 2 rfl) (M.out.row_none 2 rfl) c hcs least _ (M.out.slof 2 rfl)).mono ?_); rintro e w_ ⟨rfl, N_⟩; have m := M.out.join N_; clear N_; simp only [List.cons_append, List.nil_append, List.append_nil] at m; have M := Lib.hid m; clear m))
        refine onward_normal (hK _ _ ?_)
        clear hK K
        try simp only [Act.put, List.getElem_toArray, List.getElem_cons_succ, List.getElem_cons_zero, List.setIfInBounds_toArray, List.set_cons_succ, List.set_cons_zero]
        refine any1k 8 (by kernel_rfl) rfl (fun K hK => ?_)
        go_wp2
        refine onward_normal (hK _ _ ?_)
        clear hK K
        try simp only [Act.put, List.getElem_toArray, List.getElem_cons_succ, List.getElem_cons_zero, List.setIfInBounds_toArray, List.set_cons_succ, List.set_cons_zero]
        apply takeD (i := 9) 29 rfl (by kernel_rfl) (by kernel_rfl) (by kernel_rfl) (fun _ _ _ h => h) rfl
        case' hy =>
          refine Or.inl ⟨by first | rfl | (go_simp; done), ?_⟩
          intro w
          go_simp
          try with_reducible rfl
        try simp only [Act.put, List.setIfInBounds_toArray, List.set_cons_succ, List.set_cons_zero]
        apply takeD (i := 10) 30 rfl (by kernel_rfl) (by kernel_rfl) (by kernel_rfl) (fun _ _ _ h => h) rfl
        case' hy =>
          refine Or.inl ⟨by first | rfl | (go_simp; done), ?_⟩
          intro w
          go_simp
          try with_reducible rfl
        try simp only [Act.put, List.setIfInBounds_toArray, List.set_cons_succ, List.set_cons_zero]
        refine any1k 11 (by kernel_rfl) rfl (fun K hK => ?_)
        go_wp2
        refine onward_normal (hK _ _ ?_)
        clear hK K
        try simp only [Act.put, List.getElem_toArray, List.getElem_cons_succ, List.getElem_cons_zero, List.setIfInBounds_toArray, List.set_cons_succ, List.set_cons_zero]
        refine any1k 12 (by kernel_rfl) rfl (fun K hK => ?_)
        go_wp2
        refine onward_normal (hK _ _ ?_)
        clear hK K
        try simp only [Act.put, List.getElem_toArray, List.getElem_cons_succ, List.getElem_cons_zero, List.setIfInBounds_toArray, List.set_cons_succ, List.set_cons_zero]
        refine wpAny_done (by kernel_rfl) ?_ _
      rotate_right 1
      case' _ =>
        go_wp2_with (first | ((with_reducible refine gate_dst (N := 21) rfl ?_); go_must (refine M.out.ev_ldw 0 _ _ rfl rfl rfl Try.underlying27 rfl (by first | exact sz27 | (rw [S1.out]; exact sz27) | (rw [S2.out]; exact sz27) | (rw [S3.out]; exact sz27)) rfl ?_)) | ((with_reducible refine gate_dst (N := 25) rfl ?_); go_must (refine M.out.ev_ldw 1 _ _ rfl rfl rfl Try.underlying49 rfl (by first | exact sz49 | (rw [S1.out]; exact sz49) | (rw [S2.out]; exact sz49) | (rw [S3.out]; exact sz49)) rfl ?_)) | (go_at_call 16; go_must (refine (toField_any F hF.toLen _).mono ?_); rintro e w_ ⟨rfl, hB_⟩; have M := Lib.hid (M.out.kept hB_); clear hB_) | (go_at_call 48; go_must (refine (toCells_any c _).mono ?_); rintro e w_ ⟨rfl, hB_⟩; have M := Lib.hid (M.out.kept hB_); clear hB_) | (go_at_call 17; go_must (refine (toScarecrowS_any A n xs _ hl (M.out.sl HS.out)).mono ?_); rintro e w_ ⟨A_, c_, rfl, hc_, N_⟩; have m := M.out.join N_; clear N_; simp only [List.cons_append, List.nil_append, List.append_nil] at m; have M := Lib.hid m; clear m) | (go_at_call 47; go_must (refine (spec_LongestSafe_any F hF _ _ xs HX.out hl hc_ (M.out.row_cap 2 rfl) (M.out.row_none 2 rfl) c hcs least _ (M.out.slof 2 rfl)).mono ?_); rintro e w_ ⟨rfl, N_⟩; have m := M.out.join N_; clear N_; simp only [List.cons_append, List.nil_append, List.append_nil] at m; have M := Lib.hid m; clear m))
        refine onward_normal (hK _ _ ?_)
        clear hK K
        try simp only [Act.put, List.getElem_toArray, List.getElem_cons_succ, List.getElem_cons_zero, List.setIfInBounds_toArray, List.set_cons_succ, List.set_cons_zero]
        refine any2k 3 4 (by kernel_rfl) rfl rfl (fun K hK => ?_) (fun K hK => ?_)
        rotate_right 1
        case' _ =>
          go_wp2_with (first | ((with_reducible refine gate_dst (N := 21) rfl ?_); go_must (refine M.out.ev_ldw 0 _ _ rfl rfl rfl Try.underlying27 rfl (by first | exact sz27 | (rw [S1.out]; exact sz27) | (rw [S2.out]; exact sz27) | (rw [S3.out]; exact sz27)) rfl ?_)) | ((with_reducible refine gate_dst (N := 25) rfl ?_); go_must (refine M.out.ev_ldw 1 _ _ rfl rfl rfl Try.underlying49 rfl (by first | exact sz49 | (rw [S1.out]; exact sz49) | (rw [S2.out]; exact sz49) | (rw [S3.out]; exact sz49)) rfl ?_)) | (go_at_call 16; go_must (refine (toField_any F hF.toLen _).mono ?_); rintro e w_ ⟨rfl, hB_⟩; have M := Lib.hid (M.out.kept hB_); clear hB_) | (go_at_call 48; go_must (refine (toCells_any c _).mono ?_); rintro e w_ ⟨rfl, hB_⟩; have M := Lib.hid (M.out.kept hB_); clear hB_) | (go_at_call 17; go_must (refine (toScarecrowS_any A n xs _ hl (M.out.sl HS.out)).mono ?_); rintro e w_ ⟨A_, c_, rfl, hc_, N_⟩; have m := M.out.join N_; clear N_; simp only [List.cons_append, List.nil_append, List.append_nil] at m; have M := Lib.hid m; clear m) | (go_at_call 47; go_must (refine (spec_LongestSafe_any F hF _ _ xs HX.out hl hc_ (M.out.row_cap 2 rfl) (M.out.row_none 2 rfl) c hcs least _ (M.out.slof 2 rfl)).mono ?_); rintro e w_ ⟨rfl, N_⟩; have m := M.out.join N_; clear N_; simp only [List.cons_append, List.nil_append, List.append_nil] at m; have M := Lib.hid m; clear m))
          refine onward_normal (hK _ _ ?_)
          clear hK K
          try simp only [Act.put, List.getElem_toArray, List.getElem_cons_succ, List.getElem_cons_zero, List.setIfInBounds_toArray, List.set_cons_succ, List.set_cons_zero]
          refine any1k 3 (by kernel_rfl) rfl (fun K hK => ?_)
          go_wp2_with (first | ((with_reducible refine gate_dst (N := 21) rfl ?_); go_must (refine M.out.ev_ldw 0 _ _ rfl rfl rfl Try.underlying27 rfl (by first | exact sz27 | (rw [S1.out]; exact sz27) | (rw [S2.out]; exact sz27) | (rw [S3.out]; exact sz27)) rfl ?_)) | ((with_reducible refine gate_dst (N := 25) rfl ?_); go_must (refine M.out.ev_ldw 1 _ _ rfl rfl rfl Try.underlying49 rfl (by first | exact sz49 | (rw [S1.out]; exact sz49) | (rw [S2.out]; exact sz49) | (rw [S3.out]; exact sz49)) rfl ?_)) | (go_at_call 16; go_must (refine (toField_any F hF.toLen _).mono ?_); rintro e w_ ⟨rfl, hB_⟩; have M := Lib.hid (M.out.kept hB_); clear hB_) | (go_at_call 48; go_must (refine (toCells_any c _).mono ?_); rintro e w_ ⟨rfl, hB_⟩; have M := Lib.hid (M.out.kept hB_); clear hB_) | (go_at_call 17; go_must (refine (toScarecrowS_any A n xs _ hl (M.out.sl HS.out)).mono ?_); rintro e w_ ⟨A_, c_, rfl, hc_, N_⟩; have m := M.out.join N_; clear N_; simp only [List.cons_append, List.nil_append, List.append_nil] at m; have M := Lib.hid m; clear m) | (go_at_call 47; go_must (refine (spec_LongestSafe_any F hF _ _ xs HX.out hl hc_ (M.out.row_cap 2 rfl) (M.out.row_none 2 rfl) c hcs least _ (M.out.slof 2 rfl)).mono ?_); rintro e w_ ⟨rfl, N_⟩; have m := M.out.join N_; clear N_; simp only [List.cons_append, List.nil_append, List.append_nil] at m; have M := Lib.hid m; clear m))
          refine onward_normal (hK _ _ ?_)
          clear hK K
          try simp only [Act.put, List.getElem_toArray, List.getElem_cons_succ, List.getElem_cons_zero, List.setIfInBounds_toArray, List.set_cons_succ, List.set_cons_zero]
          refine any1k 5 (by kernel_rfl) rfl (fun K hK => ?_)
          go_wp2_with (first | ((with_reducible refine gate_dst (N := 21) rfl ?_); go_must (refine M.out.ev_ldw 0 _ _ rfl rfl rfl Try.underlying27 rfl (by first | exact sz27 | (rw [S1.out]; exact sz27) | (rw [S2.out]; exact sz27) | (rw [S3.out]; exact sz27)) rfl ?_)) | ((with_reducible refine gate_dst (N := 25) rfl ?_); go_must (refine M.out.ev_ldw 1 _ _ rfl rfl rfl Try.underlying49 rfl (by first | exact sz49 | (rw [S1.out]; exact sz49) | (rw [S2.out]; exact sz49) | (rw [S3.out]; exact sz49)) rfl ?_)) | (go_at_call 16; go_must (refine (toField_any F hF.toLen _).mono ?_); rintro e w_ ⟨rfl, hB_⟩; have M := Lib.hid (M.out.kept hB_); clear hB_) | (go_at_call 48; go_must (refine (toCells_any c _).mono ?_); rintro e w_ ⟨rfl, hB_⟩; have M := Lib.hid (M.out.kept hB_); clear hB_) | (go_at_call 17; go_must (refine (toScarecrowS_any A n xs _ hl (M.out.sl HS.out)).mono ?_); rintro e w_ ⟨A_, c_, rfl, hc_, N_⟩; have m := M.out.join N_; clear N_; simp only [List.cons_append, List.nil_append, List.append_nil] at m; have M := Lib.hid m; clear m) | (go_at_call 47; go_must (refine (spec_LongestSafe_any F hF _ _ xs HX.out hl hc_ (M.out.row_cap 2 rfl) (M.out.row_none 2 rfl) c hcs least _ (M.out.slof 2 rfl)).mono ?_); rintro e w_ ⟨rfl, N_⟩; have m := M.out.join N_; clear N_; simp only [List.cons_append, List.nil_append, List.append_nil] at m; have M := Lib.hid m; clear m))
          refine onward_normal (hK _ _ ?_)
          clear hK K
          try simp only [Act.put, List.getElem_toArray, List.getElem_cons_succ, List.getElem_cons_zero, List.setIfInBounds_toArray, List.set_cons_succ, List.set_cons_zero]
          refine any1k 7 (by kernel_rfl) rfl (fun K hK => ?_)
          go_wp2_with (first | ((with_reducible refine gate_dst (N := 21) rfl ?_); go_must (refine M.out.ev_ldw 0 _ _ rfl rfl rfl Try.underlying27 rfl (by first | exact sz27 | (rw [S1.out]; exact sz27) | (rw [S2.out]; exact sz27) | (rw [S3.out]; exact sz27)) rfl ?_)) | ((with_reducible refine gate_dst (N := 25) rfl ?_); go_must (refine M.out.ev_ldw 1 _ _ rfl rfl rfl Try.underlying49 rfl (by first | exact sz49 | (rw [S1.out]; exact sz49) | (rw [S2.out]; exact sz49) | (rw [S3.out]; exact sz49)) rfl ?_)) | (go_at_call 16; go_must (refine (toField_any F hF.toLen _).mono ?_); rintro e w_ ⟨rfl, hB_⟩; have M := Lib.hid (M.out.kept hB_); clear hB_) | (go_at_call 48; go_must (refine (toCells_any c _).mono ?_); rintro e w_ ⟨rfl, hB_⟩; have M := Lib.hid (M.out.kept hB_); clear hB_) | (go_at_call 17; go_must (refine (toScarecrowS_any A n xs _ hl (M.out.sl HS.out)).mono ?_); rintro e w_ ⟨A_, c_, rfl, hc_, N_⟩; have m := M.out.join N_; clear N_; simp only [List.cons_append, List.nil_append, List.append_nil] at m; have M := Lib.hid m; clear m) | (go_at_call 47; go_must (refine (spec_LongestSafe_any F hF _ _ xs HX.out hl hc_ (M.out.row_cap 2 rfl) (M.out.row_none 2 rfl) c hcs least _ (M.out.slof 2 rfl)).mono ?_); rintro e w_ ⟨rfl, N_⟩; have m := M.out.join N_; clear N_; simp only [List.cons_append, List.nil_append, List.append_nil] at m; have M := Lib.hid m; clear m))
          refine onward_normal (hK _ _ ?_)
          clear hK K
          try simp only [Act.put, List.getElem_toArray, List.getElem_cons_succ, List.getElem_cons_zero, List.setIfInBounds_toArray, List.set_cons_succ, List.set_cons_zero]
          refine any1k 8 (by kernel_rfl) rfl (fun K hK => ?_)
          go_wp2
          refine onward_normal (hK _ _ ?_)
          clear hK K
          try simp only [Act.put, List.getElem_toArray, List.getElem_cons_succ, List.getElem_cons_zero, List.setIfInBounds_toArray, List.set_cons_succ, List.set_cons_zero]
          apply takeD (i := 9) 29 rfl (by kernel_rfl) (by kernel_rfl) (by kernel_rfl) (fun _ _ _ h => h) rfl
          case' hy =>
            refine Or.inl ⟨by first | rfl | (go_simp; done), ?_⟩
            intro w
            go_simp
            try with_reducible rfl
          try simp only [Act.put, List.setIfInBounds_toArray, List.set_cons_succ, List.set_cons_zero]
          apply takeD (i := 10) 30 rfl (by kernel_rfl) (by kernel_rfl) (by kernel_rfl) (fun _ _ _ h => h) rfl
          case' hy =>
            refine Or.inl ⟨by first | rfl | (go_simp; done), ?_⟩
            intro w
            go_simp
            try with_reducible rfl
          try simp only [Act.put, List.setIfInBounds_toArray, List.set_cons_succ, List.set_cons_zero]
          refine any1k 11 (by kernel_rfl) rfl (fun K hK => ?_)
          go_wp2
          refine onward_normal (hK _ _ ?_)
          clear hK K
          try simp only [Act.put, List.getElem_toArray, List.getElem_cons_succ, List.getElem_cons_zero, List.setIfInBounds_toArray, List.set_cons_succ, List.set_cons_zero]
          refine any1k 12 (by kernel_rfl) rfl (fun K hK => ?_)
          go_wp2
          refine onward_normal (hK _ _ ?_)
          clear hK K
          try simp only [Act.put, List.getElem_toArray, List.getElem_cons_succ, List.getElem_cons_zero, List.setIfInBounds_toArray, List.set_cons_succ, List.set_cons_zero]
          refine wpAny_done (by kernel_rfl) ?_ _
        rotate_right 1
        case' _ =>
          go_wp2_with (first | ((with_reducible refine gate_dst (N := 21) rfl ?_); go_must (refine M.out.ev_ldw 0 _ _ rfl rfl rfl Try.underlying27 rfl (by first | exact sz27 | (rw [S1.out]; exact sz27) | (rw [S2.out]; exact sz27) | (rw [S3.out]; exact sz27)) rfl ?_)) | ((with_reducible refine gate_dst (N := 25) rfl ?_); go_must (refine M.out.ev_ldw 1 _ _ rfl rfl rfl Try.underlying49 rfl (by first | exact sz49 | (rw [S1.out]; exact sz49) | (rw [S2.out]; exact sz49) | (rw [S3.out]; exact sz49)) rfl ?_)) | (go_at_call 16; go_must (refine (toField_any F hF.toLen _).mono ?_); rintro e w_ ⟨rfl, hB_⟩; have M := Lib.hid (M.out.kept hB_); clear hB_) | (go_at_call 48; go_must (refine (toCells_any c _).mono ?_); rintro e w_ ⟨rfl, hB_⟩; have M := Lib.hid (M.out.kept hB_); clear hB_) | (go_at_call 17; go_must (refine (toScarecrowS_any A n xs _ hl (M.out.sl HS.out)).mono ?_); rintro e w_ ⟨A_, c_, rfl, hc_, N_⟩; have m := M.out.join N_; clear N_; simp only [List.cons_append, List.nil_append, List.append_nil] at m; have M := Lib.hid m; clear m) | (go_at_call 47; go_must (refine (spec_LongestSafe_any F hF _ _ xs HX.out hl hc_ (M.out.row_cap 2 rfl) (M.out.row_none 2 rfl) c hcs least _ (M.out.slof 2 rfl)).mono ?_); rintro e w_ ⟨rfl, N_⟩; have m := M.out.join N_; clear N_; simp only [List.cons_append, List.nil_append, List.append_nil] at m; have M := Lib.hid m; clear m))
          refine onward_normal (hK _ _ ?_)
          clear hK K
          try simp only [Act.put, List.getElem_toArray, List.getElem_cons_succ, List.getElem_cons_zero, List.setIfInBounds_toArray, List.set_cons_succ, List.set_cons_zero]
          refine any1k 4 (by kernel_rfl) rfl (fun K hK => ?_)
          go_wp2_with (first | ((with_reducible refine gate_dst (N := 21) rfl ?_); go_must (refine M.out.ev_ldw 0 _ _ rfl rfl rfl Try.underlying27 rfl (by first | exact sz27 | (rw [S1.out]; exact sz27) | (rw [S2.out]; exact sz27) | (rw [S3.out]; exact sz27)) rfl ?_)) | ((with_reducible refine gate_dst (N := 25) rfl ?_); go_must (refine M.out.ev_ldw 1 _ _ rfl rfl rfl Try.underlying49 rfl (by first | exact sz49 | (rw [S1.out]; exact sz49) | (rw [S2.out]; exact sz49) | (rw [S3.out]; exact sz49)) rfl ?_)) | (go_at_call 16; go_must (refine (toField_any F hF.toLen _).mono ?_); rintro e w_ ⟨rfl, hB_⟩; have M := Lib.hid (M.out.kept hB_); clear hB_) | (go_at_call 48; go_must (refine (toCells_any c _).mono ?_); rintro e w_ ⟨rfl, hB_⟩; have M := Lib.hid (M.out.kept hB_); clear hB_) | (go_at_call 17; go_must (refine (toScarecrowS_any A n xs _ hl (M.out.sl HS.out)).mono ?_); rintro e w_ ⟨A_, c_, rfl, hc_, N_⟩; have m := M.out.join N_; clear N_; simp only [List.cons_append, List.nil_append, List.append_nil] at m; have M := Lib.hid m; clear m) | (go_at_call 47; go_must (refine (spec_LongestSafe_any F hF _ _ xs HX.out hl hc_ (M.out.row_cap 2 rfl) (M.out.row_none 2 rfl) c hcs least _ (M.out.slof 2 rfl)).mono ?_); rintro e w_ ⟨rfl, N_⟩; have m := M.out.join N_; clear N_; simp only [List.cons_append, List.nil_append, List.append_nil] at m; have M := Lib.hid m; clear m))
          refine onward_normal (hK _ _ ?_)
          clear hK K
          try simp only [Act.put, List.getElem_toArray, List.getElem_cons_succ, List.getElem_cons_zero, List.setIfInBounds_toArray, List.set_cons_succ, List.set_cons_zero]
          refine any1k 5 (by kernel_rfl) rfl (fun K hK => ?_)
          go_wp2_with (first | ((with_reducible refine gate_dst (N := 21) rfl ?_); go_must (refine M.out.ev_ldw 0 _ _ rfl rfl rfl Try.underlying27 rfl (by first | exact sz27 | (rw [S1.out]; exact sz27) | (rw [S2.out]; exact sz27) | (rw [S3.out]; exact sz27)) rfl ?_)) | ((with_reducible refine gate_dst (N := 25) rfl ?_); go_must (refine M.out.ev_ldw 1 _ _ rfl rfl rfl Try.underlying49 rfl (by first | exact sz49 | (rw [S1.out]; exact sz49) | (rw [S2.out]; exact sz49) | (rw [S3.out]; exact sz49)) rfl ?_)) | (go_at_call 16; go_must (refine (toField_any F hF.toLen _).mono ?_); rintro e w_ ⟨rfl, hB_⟩; have M := Lib.hid (M.out.kept hB_); clear hB_) | (go_at_call 48; go_must (refine (toCells_any c _).mono ?_); rintro e w_ ⟨rfl, hB_⟩; have M := Lib.hid (M.out.kept hB_); clear hB_) | (go_at_call 17; go_must (refine (toScarecrowS_any A n xs _ hl (M.out.sl HS.out)).mono ?_); rintro e w_ ⟨A_, c_, rfl, hc_, N_⟩; have m := M.out.join N_; clear N_; simp only [List.cons_append, List.nil_append, List.append_nil] at m; have M := Lib.hid m; clear m) | (go_at_call 47; go_must (refine (spec_LongestSafe_any F hF _ _ xs HX.out hl hc_ (M.out.row_cap 2 rfl) (M.out.row_none 2 rfl) c hcs least _ (M.out.slof 2 rfl)).mono ?_); rintro e w_ ⟨rfl, N_⟩; have m := M.out.join N_; clear N_; simp only [List.cons_append, List.nil_append, List.append_nil] at m; have M := Lib.hid m; clear m))
          refine onward_normal (hK _ _ ?_)
          clear hK K
          try simp only [Act.put, List.getElem_toArray, List.getElem_cons_succ, List.getElem_cons_zero, List.setIfInBounds_toArray, List.set_cons_succ, List.set_cons_zero]
          refine any1k 7 (by kernel_rfl) rfl (fun K hK => ?_)
          go_wp2_with (first | ((with_reducible refine gate_dst (N := 21) rfl ?_); go_must (refine M.out.ev_ldw 0 _ _ rfl rfl rfl Try.underlying27 rfl (by first | exact sz27 | (rw [S1.out]; exact sz27) | (rw [S2.out]; exact sz27) | (rw [S3.out]; exact sz27)) rfl ?_)) | ((with_reducible refine gate_dst (N := 25) rfl ?_); go_must (refine M.out.ev_ldw 1 _ _ rfl rfl rfl Try.underlying49 rfl (by first | exact sz49 | (rw [S1.out]; exact sz49) | (rw [S2.out]; exact sz49) | (rw [S3.out]; exact sz49)) rfl ?_)) | (go_at_call 16; go_must (refine (toField_any F hF.toLen _).mono ?_); rintro e w_ ⟨rfl, hB_⟩; have M := Lib.hid (M.out.kept hB_); clear hB_) | (go_at_call 48; go_must (refine (toCells_any c _).mono ?_); rintro e w_ ⟨rfl, hB_⟩; have M := Lib.hid (M.out.kept hB_); clear hB_) | (go_at_call 17; go_must (refine (toScarecrowS_any A n xs _ hl (M.out.sl HS.out)).mono ?_); rintro e w_ ⟨A_, c_, rfl, hc_, N_⟩; have m := M.out.join N_; clear N_; simp only [List.cons_append, List.nil_append, List.append_nil] at m; have M := Lib.hid m; clear m) | (go_at_call 47; go_must (refine (spec_LongestSafe_any F hF _ _ xs HX.out hl hc_ (M.out.row_cap 2 rfl) (M.out.row_none 2 rfl) c hcs least _ (M.out.slof 2 rfl)).mono ?_); rintro e w_ ⟨rfl, N_⟩; have m := M.out.join N_; clear N_; simp only [List.cons_append, List.nil_append, List.append_nil] at m; have M := Lib.hid m; clear m))
          refine onward_normal (hK _ _ ?_)
          clear hK K
          try simp only [Act.put, List.getElem_toArray, List.getElem_cons_succ, List.getElem_cons_zero, List.setIfInBounds_toArray, List.set_cons_succ, List.set_cons_zero]
          refine any1k 8 (by kernel_rfl) rfl (fun K hK => ?_)
          go_wp2
          refine onward_normal (hK _ _ ?_)
          clear hK K
          try simp only [Act.put, List.getElem_toArray, List.getElem_cons_succ, List.getElem_cons_zero, List.setIfInBounds_toArray, List.set_cons_succ, List.set_cons_zero]
          apply takeD (i := 9) 29 rfl (by kernel_rfl) (by kernel_rfl) (by kernel_rfl) (fun _ _ _ h => h) rfl
          case' hy =>
            refine Or.inl ⟨by first | rfl | (go_simp; done), ?_⟩
            intro w
            go_simp
            try with_reducible rfl
          try simp only [Act.put, List.setIfInBounds_toArray, List.set_cons_succ, List.set_cons_zero]
          apply takeD (i := 10) 30 rfl (by kernel_rfl) (by kernel_rfl) (by kernel_rfl) (fun _ _ _ h => h) rfl
          case' hy =>
            refine Or.inl ⟨by first | rfl | (go_simp; done), ?_⟩
            intro w
            go_simp
            try with_reducible rfl
          try simp only [Act.put, List.setIfInBounds_toArray, List.set_cons_succ, List.set_cons_zero]
          refine any1k 11 (by kernel_rfl) rfl (fun K hK => ?_)
          go_wp2
          refine onward_normal (hK _ _ ?_)
          clear hK K
          try simp only [Act.put, List.getElem_toArray, List.getElem_cons_succ, List.getElem_cons_zero, List.setIfInBounds_toArray, List.set_cons_succ, List.set_cons_zero]
          refine any1k 12 (by kernel_rfl) rfl (fun K hK => ?_)
          go_wp2
          refine onward_normal (hK _ _ ?_)
          clear hK K
          try simp only [Act.put, List.getElem_toArray, List.getElem_cons_succ, List.getElem_cons_zero, List.setIfInBounds_toArray, List.set_cons_succ, List.set_cons_zero]
          refine wpAny_done (by kernel_rfl) ?_ _
    all_goals
      go_wp2_with (first
        | (go_at_call 17; go_must (refine (toScarecrowS_any A n xs _ hl (M.out.sl HS.out)).mono ?_); rintro e w_ ⟨A_, c_, rfl, hc_, N_⟩; have m := M.out.join N_; clear N_; simp only [List.cons_append, List.nil_append, List.append_nil] at m; have M := Lib.hid m; clear m)
        )
      refine region_any (by kernel_rfl) ?_
      have m := M.out.drew
      clear M
      have M := Lib.hid m
      clear m
      apply takeD (i := 2) 36 rfl (by kernel_rfl) (by kernel_rfl) (by kernel_rfl) (fun _ _ _ h => h) rfl
      case' hy =>
        refine Or.inl ⟨by first | rfl | (go_simp; done), ?_⟩
        intro w
        go_simp
        try with_reducible rfl
      try simp only [Act.put, List.setIfInBounds_toArray, List.set_cons_succ, List.set_cons_zero]
      apply takeD (i := 5) 39 rfl (by kernel_rfl) (by kernel_rfl) (by kernel_rfl) (fun _ _ _ h => h) rfl
      case' hy =>
        refine Or.inl ⟨by first | rfl | (go_simp; done), ?_⟩
        intro w
        go_simp
        try with_reducible rfl
      try simp only [Act.put, List.setIfInBounds_toArray, List.set_cons_succ, List.set_cons_zero]
      refine any2k 0 3 (by kernel_rfl) rfl rfl (fun K hK => ?_) (fun K hK => ?_)
      rotate_right 1
      case' _ =>
        go_wp2_with (first | ((with_reducible refine gate_dst (N := 34) rfl ?_); go_must (refine M.out.ev_ldw 0 _ _ rfl rfl rfl Try.underlying27 rfl (by first | exact sz27 | (rw [S1.out]; exact sz27) | (rw [S2.out]; exact sz27) | (rw [S3.out]; exact sz27)) rfl ?_)) | ((with_reducible refine gate_dst (N := 37) rfl ?_); go_must (refine M.out.ev_ldw 1 _ _ rfl rfl rfl Try.underlying49 rfl (by first | exact sz49 | (rw [S1.out]; exact sz49) | (rw [S2.out]; exact sz49) | (rw [S3.out]; exact sz49)) rfl ?_)) | (go_at_call 16; go_must (refine (toField_any F hF.toLen _).mono ?_); rintro e w_ ⟨rfl, hB_⟩; have M := Lib.hid (M.out.kept hB_); clear hB_) | (go_at_call 48; go_must (refine (toCells_any c _).mono ?_); rintro e w_ ⟨rfl, hB_⟩; have M := Lib.hid (M.out.kept hB_); clear hB_) | (go_at_call 49; go_must (refine (impl_LongestSafe_any F hF _ _ xs HX.out hl hc_ (M.out.row_cap 3 rfl) (M.out.row_none 3 rfl) c hcs least _ (M.out.slof 3 rfl)).mono ?_); rintro e w_ ⟨rfl, N_⟩; have m := M.out.join N_; clear N_; simp only [List.cons_append, List.nil_append, List.append_nil] at m; have M := Lib.hid m; clear m))
        refine onward_normal (hK _ _ ?_)
        clear hK K
        try simp only [Act.put, List.getElem_toArray, List.getElem_cons_succ, List.getElem_cons_zero, List.setIfInBounds_toArray, List.set_cons_succ, List.set_cons_zero]
        refine any1k 0 (by kernel_rfl) rfl (fun K hK => ?_)
        go_wp2_with (first | ((with_reducible refine gate_dst (N := 34) rfl ?_); go_must (refine M.out.ev_ldw 0 _ _ rfl rfl rfl Try.underlying27 rfl (by first | exact sz27 | (rw [S1.out]; exact sz27) | (rw [S2.out]; exact sz27) | (rw [S3.out]; exact sz27)) rfl ?_)) | ((with_reducible refine gate_dst (N := 37) rfl ?_); go_must (refine M.out.ev_ldw 1 _ _ rfl rfl rfl Try.underlying49 rfl (by first | exact sz49 | (rw [S1.out]; exact sz49) | (rw [S2.out]; exact sz49) | (rw [S3.out]; exact sz49)) rfl ?_)) | (go_at_call 16; go_must (refine (toField_any F hF.toLen _).mono ?_); rintro e w_ ⟨rfl, hB_⟩; have M := Lib.hid (M.out.kept hB_); clear hB_) | (go_at_call 48; go_must (refine (toCells_any c _).mono ?_); rintro e w_ ⟨rfl, hB_⟩; have M := Lib.hid (M.out.kept hB_); clear hB_) | (go_at_call 49; go_must (refine (impl_LongestSafe_any F hF _ _ xs HX.out hl hc_ (M.out.row_cap 3 rfl) (M.out.row_none 3 rfl) c hcs least _ (M.out.slof 3 rfl)).mono ?_); rintro e w_ ⟨rfl, N_⟩; have m := M.out.join N_; clear N_; simp only [List.cons_append, List.nil_append, List.append_nil] at m; have M := Lib.hid m; clear m))
        refine onward_normal (hK _ _ ?_)
        clear hK K
        try simp only [Act.put, List.getElem_toArray, List.getElem_cons_succ, List.getElem_cons_zero, List.setIfInBounds_toArray, List.set_cons_succ, List.set_cons_zero]
        refine any1k 1 (by kernel_rfl) rfl (fun K hK => ?_)
        go_wp2_with (first | ((with_reducible refine gate_dst (N := 34) rfl ?_); go_must (refine M.out.ev_ldw 0 _ _ rfl rfl rfl Try.underlying27 rfl (by first | exact sz27 | (rw [S1.out]; exact sz27) | (rw [S2.out]; exact sz27) | (rw [S3.out]; exact sz27)) rfl ?_)) | ((with_reducible refine gate_dst (N := 37) rfl ?_); go_must (refine M.out.ev_ldw 1 _ _ rfl rfl rfl Try.underlying49 rfl (by first | exact sz49 | (rw [S1.out]; exact sz49) | (rw [S2.out]; exact sz49) | (rw [S3.out]; exact sz49)) rfl ?_)) | (go_at_call 16; go_must (refine (toField_any F hF.toLen _).mono ?_); rintro e w_ ⟨rfl, hB_⟩; have M := Lib.hid (M.out.kept hB_); clear hB_) | (go_at_call 48; go_must (refine (toCells_any c _).mono ?_); rintro e w_ ⟨rfl, hB_⟩; have M := Lib.hid (M.out.kept hB_); clear hB_) | (go_at_call 49; go_must (refine (impl_LongestSafe_any F hF _ _ xs HX.out hl hc_ (M.out.row_cap 3 rfl) (M.out.row_none 3 rfl) c hcs least _ (M.out.slof 3 rfl)).mono ?_); rintro e w_ ⟨rfl, N_⟩; have m := M.out.join N_; clear N_; simp only [List.cons_append, List.nil_append, List.append_nil] at m; have M := Lib.hid m; clear m))
        refine onward_normal (hK _ _ ?_)
        clear hK K
        try simp only [Act.put, List.getElem_toArray, List.getElem_cons_succ, List.getElem_cons_zero, List.setIfInBounds_toArray, List.set_cons_succ, List.set_cons_zero]
        refine any1k 4 (by kernel_rfl) rfl (fun K hK => ?_)
        go_wp2_with (first | ((with_reducible refine gate_dst (N := 34) rfl ?_); go_must (refine M.out.ev_ldw 0 _ _ rfl rfl rfl Try.underlying27 rfl (by first | exact sz27 | (rw [S1.out]; exact sz27) | (rw [S2.out]; exact sz27) | (rw [S3.out]; exact sz27)) rfl ?_)) | ((with_reducible refine gate_dst (N := 37) rfl ?_); go_must (refine M.out.ev_ldw 1 _ _ rfl rfl rfl Try.underlying49 rfl (by first | exact sz49 | (rw [S1.out]; exact sz49) | (rw [S2.out]; exact sz49) | (rw [S3.out]; exact sz49)) rfl ?_)) | (go_at_call 16; go_must (refine (toField_any F hF.toLen _).mono ?_); rintro e w_ ⟨rfl, hB_⟩; have M := Lib.hid (M.out.kept hB_); clear hB_) | (go_at_call 48; go_must (refine (toCells_any c _).mono ?_); rintro e w_ ⟨rfl, hB_⟩; have M := Lib.hid (M.out.kept hB_); clear hB_) | (go_at_call 49; go_must (refine (impl_LongestSafe_any F hF _ _ xs HX.out hl hc_ (M.out.row_cap 3 rfl) (M.out.row_none 3 rfl) c hcs least _ (M.out.slof 3 rfl)).mono ?_); rintro e w_ ⟨rfl, N_⟩; have m := M.out.join N_; clear N_; simp only [List.cons_append, List.nil_append, List.append_nil] at m; have M := Lib.hid m; clear m))
        refine onward_normal (hK _ _ ?_)
        clear hK K
        try simp only [Act.put, List.getElem_toArray, List.getElem_cons_succ, List.getElem_cons_zero, List.setIfInBounds_toArray, List.set_cons_succ, List.set_cons_zero]
        refine any1k 6 (by kernel_rfl) rfl (fun K hK => ?_)
        go_wp2_with (first | ((with_reducible refine gate_dst (N := 34) rfl ?_); go_must (refine M.out.ev_ldw 0 _ _ rfl rfl rfl Try.underlying27 rfl (by first | exact sz27 | (rw [S1.out]; exact sz27) | (rw [S2.out]; exact sz27) | (rw [S3.out]; exact sz27)) rfl ?_)) | ((with_reducible refine gate_dst (N := 37) rfl ?_); go_must (refine M.out.ev_ldw 1 _ _ rfl rfl rfl Try.underlying49 rfl (by first | exact sz49 | (rw [S1.out]; exact sz49) | (rw [S2.out]; exact sz49) | (rw [S3.out]; exact sz49)) rfl ?_)) | (go_at_call 16; go_must (refine (toField_any F hF.toLen _).mono ?_); rintro e w_ ⟨rfl, hB_⟩; have M := Lib.hid (M.out.kept hB_); clear hB_) | (go_at_call 48; go_must (refine (toCells_any c _).mono ?_); rintro e w_ ⟨rfl, hB_⟩; have M := Lib.hid (M.out.kept hB_); clear hB_) | (go_at_call 49; go_must (refine (impl_LongestSafe_any F hF _ _ xs HX.out hl hc_ (M.out.row_cap 3 rfl) (M.out.row_none 3 rfl) c hcs least _ (M.out.slof 3 rfl)).mono ?_); rintro e w_ ⟨rfl, N_⟩; have m := M.out.join N_; clear N_; simp only [List.cons_append, List.nil_append, List.append_nil] at m; have M := Lib.hid m; clear m))
        refine onward_normal (hK _ _ ?_)
        clear hK K
        try simp only [Act.put, List.getElem_toArray, List.getElem_cons_succ, List.getElem_cons_zero, List.setIfInBounds_toArray, List.set_cons_succ, List.set_cons_zero]
        refine any1k 7 (by kernel_rfl) rfl (fun K hK => ?_)
        go_wp2
        refine onward_normal (hK _ _ ?_)
        clear hK K
        try simp only [Act.put, List.getElem_toArray, List.getElem_cons_succ, List.getElem_cons_zero, List.setIfInBounds_toArray, List.set_cons_succ, List.set_cons_zero]
        apply takeD (i := 8) 41 rfl (by kernel_rfl) (by kernel_rfl) (by kernel_rfl) (fun _ _ _ h => h) rfl
        case' hy =>
          refine Or.inl ⟨by first | rfl | (go_simp; done), ?_⟩
          intro w
          go_simp
          try with_reducible rfl
        try simp only [Act.put, List.setIfInBounds_toArray, List.set_cons_succ, List.set_cons_zero]
        apply takeD (i := 9) 42 rfl (by kernel_rfl) (by kernel_rfl) (by kernel_rfl) (fun _ _ _ h => h) rfl
        case' hy =>
          refine Or.inl ⟨by first | rfl | (go_simp; done), ?_⟩
          intro w
          go_simp
          try with_reducible rfl
        try simp only [Act.put, List.setIfInBounds_toArray, List.set_cons_succ, List.set_cons_zero]
        refine any1k 10 (by kernel_rfl) rfl (fun K hK => ?_)
        go_wp2
        refine onward_normal (hK _ _ ?_)
        clear hK K
        try simp only [Act.put, List.getElem_toArray, List.getElem_cons_succ, List.getElem_cons_zero, List.setIfInBounds_toArray, List.set_cons_succ, List.set_cons_zero]
        refine any1k 11 (by kernel_rfl) rfl (fun K hK => ?_)
        go_wp2
        refine onward_normal (hK _ _ ?_)
        clear hK K
        try simp only [Act.put, List.getElem_toArray, List.getElem_cons_succ, List.getElem_cons_zero, List.setIfInBounds_toArray, List.set_cons_succ, List.set_cons_zero]
        refine wpAny_done (by kernel_rfl) ?_ _
      rotate_right 1
      case' _ =>
        go_wp2_with (first | ((with_reducible refine gate_dst (N := 34) rfl ?_); go_must (refine M.out.ev_ldw 0 _ _ rfl rfl rfl Try.underlying27 rfl (by first | exact sz27 | (rw [S1.out]; exact sz27) | (rw [S2.out]; exact sz27) | (rw [S3.out]; exact sz27)) rfl ?_)) | ((with_reducible refine gate_dst (N := 37) rfl ?_); go_must (refine M.out.ev_ldw 1 _ _ rfl rfl rfl Try.underlying49 rfl (by first | exact sz49 | (rw [S1.out]; exact sz49) | (rw [S2.out]; exact sz49) | (rw [S3.out]; exact sz49)) rfl ?_)) | (go_at_call 16; go_must (refine (toField_any F hF.toLen _).mono ?_); rintro e w_ ⟨rfl, hB_⟩; have M := Lib.hid (M.out.kept hB_); clear hB_) | (go_at_call 48; go_must (refine (toCells_any c _).mono ?_); rintro e w_ ⟨rfl, hB_⟩; have M := Lib.hid (M.out.kept hB_); clear hB_) | (go_at_call 49; go_must (refine (impl_LongestSafe_any F hF _ _ xs HX.out hl hc_ (M.out.row_cap 3 rfl) (M.out.row_none 3 rfl) c hcs least _ (M.out.slof 3 rfl)).mono ?_); rintro e w_ ⟨rfl, N_⟩; have m := M.out.join N_; clear N_; simp only [List.cons_append, List.nil_append, List.append_nil] at m; have M := Lib.hid m; clear m))
        refine onward_normal (hK _ _ ?_)
        clear hK K
        try simp only [Act.put, List.getElem_toArray, List.getElem_cons_succ, List.getElem_cons_zero, List.setIfInBounds_toArray, List.set_cons_succ, List.set_cons_zero]
        refine any2k 1 3 (by kernel_rfl) rfl rfl (fun K hK => ?_) (fun K hK => ?_)
        rotate_right 1
        case' _ =>
          go_wp2_with (first | ((with_reducible refine gate_dst (N := 34) rfl ?_); go_must (refine M.out.ev_ldw 0 _ _ rfl rfl rfl Try.underlying27 rfl (by first | exact sz27 | (rw [S1.out]; exact sz27) | (rw [S2.out]; exact sz27) | (rw [S3.out]; exact sz27)) rfl ?_)) | ((with_reducible refine gate_dst (N := 37) rfl ?_); go_must (refine M.out.ev_ldw 1 _ _ rfl rfl rfl Try.underlying49 rfl (by first | exact sz49 | (rw [S1.out]; exact sz49) | (rw [S2.out]; exact sz49) | (rw [S3.out]; exact sz49)) rfl ?_)) | (go_at_call 16; go_must (refine (toField_any F hF.toLen _).mono ?_); rintro e w_ ⟨rfl, hB_⟩; have M := Lib.hid (M.out.kept hB_); clear hB_) | (go_at_call 48; go_must (refine (toCells_any c _).mono ?_); rintro e w_ ⟨rfl, hB_⟩; have M := Lib.hid (M.out.kept hB_); clear hB_) | (go_at_call 49; go_must (refine (impl_LongestSafe_any F hF _ _ xs HX.out hl hc_ (M.out.row_cap 3 rfl) (M.out.row_none 3 rfl) c hcs least _ (M.out.slof 3 rfl)).mono ?_); rintro e w_ ⟨rfl, N_⟩; have m := M.out.join N_; clear N_; simp only [List.cons_append, List.nil_append, List.append_nil] at m; have M := Lib.hid m; clear m))
          refine onward_normal (hK _ _ ?_)
          clear hK K
          try simp only [Act.put, List.getElem_toArray, List.getElem_cons_succ, List.getElem_cons_zero, List.setIfInBounds_toArray, List.set_cons_succ, List.set_cons_zero]
          refine any1k 1 (by kernel_rfl) rfl (fun K hK => ?_)
          go_wp2_with (first | ((with_reducible refine gate_dst (N := 34) rfl ?_); go_must (refine M.out.ev_ldw 0 _ _ rfl rfl rfl Try.underlying27 rfl (by first | exact sz27 | (rw [S1.out]; exact sz27) | (rw [S2.out]; exact sz27) | (rw [S3.out]; exact sz27)) rfl ?_)) | ((with_reducible refine gate_dst (N := 37) rfl ?_); go_must (refine M.out.ev_ldw 1 _ _ rfl rfl rfl Try.underlying49 rfl (by first | exact sz49 | (rw [S1.out]; exact sz49) | (rw [S2.out]; exact sz49) | (rw [S3.out]; exact sz49)) rfl ?_)) | (go_at_call 16; go_must (refine (toField_any F hF.toLen _).mono ?_); rintro e w_ ⟨rfl, hB_⟩; have M := Lib.hid (M.out.kept hB_); clear hB_) | (go_at_call 48; go_must (refine (toCells_any c _).mono ?_); rintro e w_ ⟨rfl, hB_⟩; have M := Lib.hid (M.out.kept hB_); clear hB_) | (go_at_call 49; go_must (refine (impl_LongestSafe_any F hF _ _ xs HX.out hl hc_ (M.out.row_cap 3 rfl) (M.out.row_none 3 rfl) c hcs least _ (M.out.slof 3 rfl)).mono ?_); rintro e w_ ⟨rfl, N_⟩; have m := M.out.join N_; clear N_; simp only [List.cons_append, List.nil_append, List.append_nil] at m; have M := Lib.hid m; clear m))
          refine onward_normal (hK _ _ ?_)
          clear hK K
          try simp only [Act.put, List.getElem_toArray, List.getElem_cons_succ, List.getElem_cons_zero, List.setIfInBounds_toArray, List.set_cons_succ, List.set_cons_zero]
          refine any1k 4 (by kernel_rfl) rfl (fun K hK => ?_)
          go_wp2_with (first | ((with_reducible refine gate_dst (N := 34) rfl ?_); go_must (refine M.out.ev_ldw 0 _ _ rfl rfl rfl Try.underlying27 rfl (by first | exact sz27 | (rw [S1.out]; exact sz27) | (rw [S2.out]; exact sz27) | (rw [S3.out]; exact sz27)) rfl ?_)) | ((with_reducible refine gate_dst (N := 37) rfl ?_); go_must (refine M.out.ev_ldw 1 _ _ rfl rfl rfl Try.underlying49 rfl (by first | exact sz49 | (rw [S1.out]; exact sz49) | (rw [S2.out]; exact sz49) | (rw [S3.out]; exact sz49)) rfl ?_)) | (go_at_call 16; go_must (refine (toField_any F hF.toLen _).mono ?_); rintro e w_ ⟨rfl, hB_⟩; have M := Lib.hid (M.out.kept hB_); clear hB_) | (go_at_call 48; go_must (refine (toCells_any c _).mono ?_); rintro e w_ ⟨rfl, hB_⟩; have M := Lib.hid (M.out.kept hB_); clear hB_) | (go_at_call 49; go_must (refine (impl_LongestSafe_any F hF _ _ xs HX.out hl hc_ (M.out.row_cap 3 rfl) (M.out.row_none 3 rfl) c hcs least _ (M.out.slof 3 rfl)).mono ?_); rintro e w_ ⟨rfl, N_⟩; have m := M.out.join N_; clear N_; simp only [List.cons_append, List.nil_append, List.append_nil] at m; have M := Lib.hid m; clear m))
          refine onward_normal (hK _ _ ?_)
          clear hK K
          try simp only [Act.put, List.getElem_toArray, List.getElem_cons_succ, List.getElem_cons_zero, List.setIfInBounds_toArray, List.set_cons_succ, List.set_cons_zero]
          refine any1k 6 (by kernel_rfl) rfl (fun K hK => ?_)
          go_wp2_with (first | ((with_reducible refine gate_dst (N := 34) rfl ?_); go_must (refine M.out.ev_ldw 0 _ _ rfl rfl rfl Try.underlying27 rfl (by first | exact sz27 | (rw [S1.out]; exact sz27) | (rw [S2.out]; exact sz27) | (rw [S3.out]; exact sz27)) rfl ?_)) | ((with_reducible refine gate_dst (N := 37) rfl ?_); go_must (refine M.out.ev_ldw 1 _ _ rfl rfl rfl Try.underlying49 rfl (by first | exact sz49 | (rw [S1.out]; exact sz49) | (rw [S2.out]; exact sz49) | (rw [S3.out]; exact sz49)) rfl ?_)) | (go_at_call 16; go_must (refine (toField_any F hF.toLen _).mono ?_); rintro e w_ ⟨rfl, hB_⟩; have M := Lib.hid (M.out.kept hB_); clear hB_) | (go_at_call 48; go_must (refine (toCells_any c _).mono ?_); rintro e w_ ⟨rfl, hB_⟩; have M := Lib.hid (M.out.kept hB_); clear hB_) | (go_at_call 49; go_must (refine (impl_LongestSafe_any F hF _ _ xs HX.out hl hc_ (M.out.row_cap 3 rfl) (M.out.row_none 3 rfl) c hcs least _ (M.out.slof 3 rfl)).mono ?_); rintro e w_ ⟨rfl, N_⟩; have m := M.out.join N_; clear N_; simp only [List.cons_append, List.nil_append, List.append_nil] at m; have M := Lib.hid m; clear m))
          refine onward_normal (hK _ _ ?_)
          clear hK K
          try simp only [Act.put, List.getElem_toArray, List.getElem_cons_succ, List.getElem_cons_zero, List.setIfInBounds_toArray, List.set_cons_succ, List.set_cons_zero]
          refine any1k 7 (by kernel_rfl) rfl (fun K hK => ?_)
          go_wp2
          refine onward_normal (hK _ _ ?_)
          clear hK K
          try simp only [Act.put, List.getElem_toArray, List.getElem_cons_succ, List.getElem_cons_zero, List.setIfInBounds_toArray, List.set_cons_succ, List.set_cons_zero]
          apply takeD (i := 8) 41 rfl (by kernel_rfl) (by kernel_rfl) (by kernel_rfl) (fun _ _ _ h => h) rfl
          case' hy =>
            refine Or.inl ⟨by first | rfl | (go_simp; done), ?_⟩
            intro w
            go_simp
            try with_reducible rfl
          try simp only [Act.put, List.setIfInBounds_toArray, List.set_cons_succ, List.set_cons_zero]
          apply takeD (i := 9) 42 rfl (by kernel_rfl) (by kernel_rfl) (by kernel_rfl) (fun _ _ _ h => h) rfl
          case' hy =>
            refine Or.inl ⟨by first | rfl | (go_simp; done), ?_⟩
            intro w
            go_simp
            try with_reducible rfl
          try simp only [Act.put, List.setIfInBounds_toArray, List.set_cons_succ, List.set_cons_zero]
          refine any1k 10 (by kernel_rfl) rfl (fun K hK => ?_)
          go_wp2
          refine onward_normal (hK _ _ ?_)
          clear hK K
          try simp only [Act.put, List.getElem_toArray, List.getElem_cons_succ, List.getElem_cons_zero, List.setIfInBounds_toArray, List.set_cons_succ, List.set_cons_zero]
          refine any1k 11 (by kernel_rfl) rfl (fun K hK => ?_)
          go_wp2
          refine onward_normal (hK _ _ ?_)
          clear hK K
          try simp only [Act.put, List.getElem_toArray, List.getElem_cons_succ, List.getElem_cons_zero, List.setIfInBounds_toArray, List.set_cons_succ, List.set_cons_zero]
          refine wpAny_done (by kernel_rfl) ?_ _
        rotate_right 1
        case' _ =>
          go_wp2_with (first | ((with_reducible refine gate_dst (N := 34) rfl ?_); go_must (refine M.out.ev_ldw 0 _ _ rfl rfl rfl Try.underlying27 rfl (by first | exact sz27 | (rw [S1.out]; exact sz27) | (rw [S2.out]; exact sz27) | (rw [S3.out]; exact sz27)) rfl ?_)) | ((with_reducible refine gate_dst (N := 37) rfl ?_); go_must (refine M.out.ev_ldw 1 _ _ rfl rfl rfl Try.underlying49 rfl (by first | exact sz49 | (rw [S1.out]; exact sz49) | (rw [S2.out]; exact sz49) | (rw [S3.out]; exact sz49)) rfl ?_)) | (go_at_call 16; go_must (refine (toField_any F hF.toLen _).mono ?_); rintro e w_ ⟨rfl, hB_⟩; have M := Lib.hid (M.out.kept hB_); clear hB_) | (go_at_call 48; go_must (refine (toCells_any c _).mono ?_); rintro e w_ ⟨rfl, hB_⟩; have M := Lib.hid (M.out.kept hB_); clear hB_) | (go_at_call 49; go_must (refine (impl_LongestSafe_any F hF _ _ xs HX.out hl hc_ (M.out.row_cap 3 rfl) (M.out.row_none 3 rfl) c hcs least _ (M.out.slof 3 rfl)).mono ?_); rintro e w_ ⟨rfl, N_⟩; have m := M.out.join N_; clear N_; simp only [List.cons_append, List.nil_append, List.append_nil] at m; have M := Lib.hid m; clear m))
          refine onward_normal (hK _ _ ?_)
          clear hK K
          try simp only [Act.put, List.getElem_toArray, List.getElem_cons_succ, List.getElem_cons_zero, List.setIfInBounds_toArray, List.set_cons_succ, List.set_cons_zero]
          refine any1k 3 (by kernel_rfl) rfl (fun K hK => ?_)
          go_wp2_with (first | ((with_reducible refine gate_dst (N := 34) rfl ?_); go_must (refine M.out.ev_ldw 0 _ _ rfl rfl rfl Try.underlying27 rfl (by first | exact sz27 | (rw [S1.out]; exact sz27) | (rw [S2.out]; exact sz27) | (rw [S3.out]; exact sz27)) rfl ?_)) | ((with_reducible refine gate_dst (N := 37) rfl ?_); go_must (refine M.out.ev_ldw 1 _ _ rfl rfl rfl Try.underlying49 rfl (by first | exact sz49 | (rw [S1.out]; exact sz49) | (rw [S2.out]; exact sz49) | (rw [S3.out]; exact sz49)) rfl ?_)) | (go_at_call 16; go_must (refine (toField_any F hF.toLen _).mono ?_); rintro e w_ ⟨rfl, hB_⟩; have M := Lib.hid (M.out.kept hB_); clear hB_) | (go_at_call 48; go_must (refine (toCells_any c _).mono ?_); rintro e w_ ⟨rfl, hB_⟩; have M := Lib.hid (M.out.kept hB_); clear hB_) | (go_at_call 49; go_must (refine (impl_LongestSafe_any F hF _ _ xs HX.out hl hc_ (M.out.row_cap 3 rfl) (M.out.row_none 3 rfl) c hcs least _ (M.out.slof 3 rfl)).mono ?_); rintro e w_ ⟨rfl, N_⟩; have m := M.out.join N_; clear N_; simp only [List.cons_append, List.nil_append, List.append_nil] at m; have M := Lib.hid m; clear m))
          refine onward_normal (hK _ _ ?_)
          clear hK K
          try simp only [Act.put, List.getElem_toArray, List.getElem_cons_succ, List.getElem_cons_zero, List.setIfInBounds_toArray, List.set_cons_succ, List.set_cons_zero]
          refine any1k 4 (by kernel_rfl) rfl (fun K hK => ?_)
          go_wp2_with (first | ((with_reducible refine gate_dst (N := 34) rfl ?_); go_must (refine M.out.ev_ldw 0 _ _ rfl rfl rfl Try.underlying27 rfl (by first | exact sz27 | (rw [S1.out]; exact sz27) | (rw [S2.out]; exact sz27) | (rw [S3.out]; exact sz27)) rfl ?_)) | ((with_reducible refine gate_dst (N := 37) rfl ?_); go_must (refine M.out.ev_ldw 1 _ _ rfl rfl rfl Try.underlying49 rfl (by first | exact sz49 | (rw [S1.out]; exact sz49) | (rw [S2.out]; exact sz49) | (rw [S3.out]; exact sz49)) rfl ?_)) | (go_at_call 16; go_must (refine (toField_any F hF.toLen _).mono ?_); rintro e w_ ⟨rfl, hB_⟩; have M := Lib.hid (M.out.kept hB_); clear hB_) | (go_at_call 48; go_must (refine (toCells_any c _).mono ?_); rintro e w_ ⟨rfl, hB_⟩; have M := Lib.hid (M.out.kept hB_); clear hB_) | (go_at_call 49; go_must (refine (impl_LongestSafe_any F hF _ _ xs HX.out hl hc_ (M.out.row_cap 3 rfl) (M.out.row_none 3 rfl) c hcs least _ (M.out.slof 3 rfl)).mono ?_); rintro e w_ ⟨rfl, N_⟩; have m := M.out.join N_; clear N_; simp only [List.cons_append, List.nil_append, List.append_nil] at m; have M := Lib.hid m; clear m))
          refine onward_normal (hK _ _ ?_)
          clear hK K
          try simp only [Act.put, List.getElem_toArray, List.getElem_cons_succ, List.getElem_cons_zero, List.setIfInBounds_toArray, List.set_cons_succ, List.set_cons_zero]
          refine any1k 6 (by kernel_rfl) rfl (fun K hK => ?_)
          go_wp2_with (first | ((with_reducible refine gate_dst (N := 34) rfl ?_); go_must (refine M.out.ev_ldw 0 _ _ rfl rfl rfl Try.underlying27 rfl (by first | exact sz27 | (rw [S1.out]; exact sz27) | (rw [S2.out]; exact sz27) | (rw [S3.out]; exact sz27)) rfl ?_)) | ((with_reducible refine gate_dst (N := 37) rfl ?_); go_must (refine M.out.ev_ldw 1 _ _ rfl rfl rfl Try.underlying49 rfl (by first | exact sz49 | (rw [S1.out]; exact sz49) | (rw [S2.out]; exact sz49) | (rw [S3.out]; exact sz49)) rfl ?_)) | (go_at_call 16; go_must (refine (toField_any F hF.toLen _).mono ?_); rintro e w_ ⟨rfl, hB_⟩; have M := Lib.hid (M.out.kept hB_); clear hB_) | (go_at_call 48; go_must (refine (toCells_any c _).mono ?_); rintro e w_ ⟨rfl, hB_⟩; have M := Lib.hid (M.out.kept hB_); clear hB_) | (go_at_call 49; go_must (refine (impl_LongestSafe_any F hF _ _ xs HX.out hl hc_ (M.out.row_cap 3 rfl) (M.out.row_none 3 rfl) c hcs least _ (M.out.slof 3 rfl)).mono ?_); rintro e w_ ⟨rfl, N_⟩; have m := M.out.join N_; clear N_; simp only [List.cons_append, List.nil_append, List.append_nil] at m; have M := Lib.hid m; clear m))
          refine onward_normal (hK _ _ ?_)
          clear hK K
          try simp only [Act.put, List.getElem_toArray, List.getElem_cons_succ, List.getElem_cons_zero, List.setIfInBounds_toArray, List.set_cons_succ, List.set_cons_zero]
          refine any1k 7 (by kernel_rfl) rfl (fun K hK => ?_)
          go_wp2
          refine onward_normal (hK _ _ ?_)
          clear hK K
          try simp only [Act.put, List.getElem_toArray, List.getElem_cons_succ, List.getElem_cons_zero, List.setIfInBounds_toArray, List.set_cons_succ, List.set_cons_zero]
          apply takeD (i := 8) 41 rfl (by kernel_rfl) (by kernel_rfl) (by kernel_rfl) (fun _ _ _ h => h) rfl
          case' hy =>
            refine Or.inl ⟨by first | rfl | (go_simp; done), ?_⟩
            intro w
            go_simp
            try with_reducible rfl
          try simp only [Act.put, List.setIfInBounds_toArray, List.set_cons_succ, List.set_cons_zero]
          apply takeD (i := 9) 42 rfl (by kernel_rfl) (by kernel_rfl) (by kernel_rfl) (fun _ _ _ h => h) rfl
          case' hy =>
            refine Or.inl ⟨by first | rfl | (go_simp; done), ?_⟩
            intro w
            go_simp
            try with_reducible rfl
          try simp only [Act.put, List.setIfInBounds_toArray, List.set_cons_succ, List.set_cons_zero]
          refine any1k 10 (by kernel_rfl) rfl (fun K hK => ?_)
          go_wp2
          refine onward_normal (hK _ _ ?_)
          clear hK K
          try simp only [Act.put, List.getElem_toArray, List.getElem_cons_succ, List.getElem_cons_zero, List.setIfInBounds_toArray, List.set_cons_succ, List.set_cons_zero]
          refine any1k 11 (by kernel_rfl) rfl (fun K hK => ?_)
          go_wp2
          refine onward_normal (hK _ _ ?_)
          clear hK K
          try simp only [Act.put, List.getElem_toArray, List.getElem_cons_succ, List.getElem_cons_zero, List.setIfInBounds_toArray, List.set_cons_succ, List.set_cons_zero]
          refine wpAny_done (by kernel_rfl) ?_ _
      all_goals
        go_wp2_with (first
          | (go_at_call 17; go_must (refine (toScarecrowS_any A n xs _ hl (M.out.sl HS.out)).mono ?_); rintro e w_ ⟨A_, c_, rfl, hc_, N_⟩; have m := M.out.join N_; clear N_; simp only [List.cons_append, List.nil_append, List.append_nil] at m; have M := Lib.hid m; clear m)
          | (go_at_call 19; go_must (refine (eqScarecrowS_any _ _ _ _ xs xs _ hl (M.out.slof 3 rfl) (M.out.slof 4 rfl)).mono ?_); rintro e w_ ⟨rfl, N_⟩; have m := M.out.join N_; clear N_; simp only [List.cons_append, List.nil_append, List.append_nil] at m; have M := Lib.hid m; clear m; rw [decide_eq_true rfl]))
        go_ret
        exact ⟨ret_bool rfl, M.out.take 0⟩
  · have hz : (1048576 : Int) < xs.length := by omega
    go_enter Try.func12, Try.ntmps12
    go_wp2_with (first
      | ((with_reducible refine gate_dst (N := 4) rfl ?_); go_must (refine M.out.ev_new rfl (by first | (go_simp; done) | (go_simp; rfl)) ?_); intro g4 w4 m; simp only [List.cons_append, List.nil_append] at m; have M := Lib.hid m; clear m)
      | ((with_reducible refine gate_dst (N := 6) rfl ?_); go_must (refine M.out.ev_new rfl (by first | (go_simp; done) | (go_simp; rfl)) ?_); intro g6 w6 m; simp only [List.cons_append, List.nil_append] at m; have M := Lib.hid m; clear m)
      | ((with_reducible refine gate_dst (N := 21) rfl ?_); go_must (refine M.out.ev_ldw 0 _ _ rfl rfl rfl Try.underlying27 rfl (by first | exact sz27 | (rw [S1.out]; exact sz27) | (rw [S2.out]; exact sz27) | (rw [S3.out]; exact sz27)) rfl ?_))
      | ((with_reducible refine gate_dst (N := 25) rfl ?_); go_must (refine M.out.ev_ldw 1 _ _ rfl rfl rfl Try.underlying49 rfl (by first | exact sz49 | (rw [S1.out]; exact sz49) | (rw [S2.out]; exact sz49) | (rw [S3.out]; exact sz49)) rfl ?_))
      | ((with_reducible refine gate_dst (N := 34) rfl ?_); go_must (refine M.out.ev_ldw 0 _ _ rfl rfl rfl Try.underlying27 rfl (by first | exact sz27 | (rw [S1.out]; exact sz27) | (rw [S2.out]; exact sz27) | (rw [S3.out]; exact sz27)) rfl ?_))
      | ((with_reducible refine gate_dst (N := 37) rfl ?_); go_must (refine M.out.ev_ldw 1 _ _ rfl rfl rfl Try.underlying49 rfl (by first | exact sz49 | (rw [S1.out]; exact sz49) | (rw [S2.out]; exact sz49) | (rw [S3.out]; exact sz49)) rfl ?_))
      | (go_at_call 14; go_must (refine (szScarecrowS_any A xs.length n 1048576 _ (by omega) (by omega) hm).mono ?_); rintro e w_ ⟨rfl, rfl⟩; rw [if_pos hz]))
    go_ret
    exact ⟨ret_bool rfl, M.out.take 0⟩
end Go.Proofs.Yteecfclccfhdhaa
