/- The law of DutiesFor: its walk. -/
import Derived.Test.YtnddoiapilookaaDutyS
import Derived.Test.YtnddoiapilookaaEqI
namespace Go.Proofs.Ytnddoiapilookaa
set_option linter.unusedSimpArgs false
set_option linter.unusedVariables false
open Go.RowKit
attribute [local go_sem] cell?_mk frozen?_mk
--ONES exact Cs.one _ | exact Prices.one _
set_option maxRecDepth 100000 in
set_option maxHeartbeats 8000000 in
theorem lawDutiesFor_any (F : Fld) (hF : F.ok) (p : Prices) (hp : p.ok) (c : Cs) (hcc : c.ok) (w : World) :
    Calls Try.prog 14 #[.agg F.cells, .agg p.vals.toArray, .agg c.cells] w fun e w' => e = .returned (.bool true) ∧ Mem w w' [] := by
  have M := Lib.hid (Mem.start w)
  have S1 := Lib.hid (Fld.size hF.toLen)
  have O1 := Lib.hid (Cs.one c)
  have hr1 := duRes_len F p c
  have IM := Lib.hid (fun w => impl_DutiesFor_any F hF p hp c hcc w)
  have SP := Lib.hid (fun w => spec_DutiesFor_any F hF p hp c hcc w)
  obtain ⟨D0, hD0⟩ : ∃ D, D = gCode F p c := ⟨_, rfl⟩
  obtain ⟨R, hR⟩ : ∃ R, R = duRes F p c := ⟨_, rfl⟩
  rw [← hD0] at IM SP
  rw [← hR] at IM SP
  rw [← hR] at hr1
  have hr : R.length ≤ 1048576 := by omega
  have hk2 : ¬ (1 + (R.length : Int) < 0) := by omega
  clear hR hr1 hD0
  go_enter Try.func14, Try.ntmps14
  go_wp2_with (first
    | ((with_reducible refine gate_dst (N := 3) rfl ?_); go_must (refine M.out.ev_new rfl (by first | (go_simp; done) | (go_simp; rfl)) ?_); intro g3 w3 m; simp only [List.cons_append, List.nil_append] at m; have M := Lib.hid m; clear m)
    | ((with_reducible refine gate_dst (N := 4) rfl ?_); go_must (refine M.out.ev_new rfl (by first | (go_simp; done) | (go_simp; rfl)) ?_); intro g4 w4 m; simp only [List.cons_append, List.nil_append] at m; have M := Lib.hid m; clear m)
    | ((with_reducible refine gate_dst (N := 5) rfl ?_); go_must (refine M.out.ev_new rfl (by first | (go_simp; done) | (go_simp; rfl)) ?_); intro g5 w5 m; simp only [List.cons_append, List.nil_append] at m; have M := Lib.hid m; clear m)
    | ((with_reducible refine gate_dst (N := 16) rfl ?_); go_must (refine M.out.ev_ldw 0 _ _ rfl rfl rfl Try.underlying27 rfl (by first | exact sz27 | (rw [S1.out]; exact sz27) | (rw [S2.out]; exact sz27) | (rw [S3.out]; exact sz27)) rfl ?_))
    | ((with_reducible refine gate_dst (N := 18) rfl ?_); go_must (refine M.out.ev_ldw 1 _ _ rfl rfl rfl Try.underlying37 rfl (by first | exact sz37 | (rw [S1.out]; exact sz37) | (rw [S2.out]; exact sz37) | (rw [S3.out]; exact sz37)) rfl ?_))
    | ((with_reducible refine gate_dst (N := 20) rfl ?_); go_must (refine M.out.ev_ldw 2 _ _ rfl rfl rfl Try.underlying50 rfl (by first | exact sz50 | (rw [S1.out]; exact sz50) | (rw [S2.out]; exact sz50) | (rw [S3.out]; exact sz50)) rfl ?_))
    | ((with_reducible refine gate_dst (N := 26) rfl ?_); go_must (refine M.out.ev_ldw 0 _ _ rfl rfl rfl Try.underlying27 rfl (by first | exact sz27 | (rw [S1.out]; exact sz27) | (rw [S2.out]; exact sz27) | (rw [S3.out]; exact sz27)) rfl ?_))
    | ((with_reducible refine gate_dst (N := 28) rfl ?_); go_must (refine M.out.ev_ldw 1 _ _ rfl rfl rfl Try.underlying37 rfl (by first | exact sz37 | (rw [S1.out]; exact sz37) | (rw [S2.out]; exact sz37) | (rw [S3.out]; exact sz37)) rfl ?_))
    | ((with_reducible refine gate_dst (N := 30) rfl ?_); go_must (refine M.out.ev_ldw 2 _ _ rfl rfl rfl Try.underlying50 rfl (by first | exact sz50 | (rw [S1.out]; exact sz50) | (rw [S2.out]; exact sz50) | (rw [S3.out]; exact sz50)) rfl ?_))
    | ((with_reducible refine gate_dst (N := 56) rfl ?_); go_must (refine M.out.ev_ldw 0 _ _ rfl rfl rfl Try.underlying27 rfl (by first | exact sz27 | (rw [S1.out]; exact sz27) | (rw [S2.out]; exact sz27) | (rw [S3.out]; exact sz27)) rfl ?_))
    | ((with_reducible refine gate_dst (N := 58) rfl ?_); go_must (refine M.out.ev_ldw 1 _ _ rfl rfl rfl Try.underlying37 rfl (by first | exact sz37 | (rw [S1.out]; exact sz37) | (rw [S2.out]; exact sz37) | (rw [S3.out]; exact sz37)) rfl ?_))
    | ((with_reducible refine gate_dst (N := 60) rfl ?_); go_must (refine M.out.ev_ldw 2 _ _ rfl rfl rfl Try.underlying50 rfl (by first | exact sz50 | (rw [S1.out]; exact sz50) | (rw [S2.out]; exact sz50) | (rw [S3.out]; exact sz50)) rfl ?_))
    | (go_at_call 16; go_must (refine (toField_any F hF.toLen _).mono ?_); rintro e w_ ⟨rfl, hB_⟩; have M := Lib.hid (M.out.kept hB_); clear hB_)
    | (go_at_call 22; go_must (refine (toPrices_any p _).mono ?_); rintro e w_ ⟨rfl, N_⟩; have m := M.out.join N_; clear N_; simp only [List.cons_append, List.nil_append, List.append_nil] at m; have M := Lib.hid m; clear m)
    | (go_at_call 33; go_must (refine (toCells_any _ _).mono ?_); rintro e w_ ⟨rfl, hB_⟩; have M := Lib.hid (M.out.kept hB_); clear hB_)
    | (go_at_call 49; go_must (first | (refine Calls.mono (calls_args (by with_reducible rfl) (eqI_any _ _ _ _ R _ hr (M.out.slof 4 rfl) (M.out.slof 3 rfl))) ?_) | (refine Calls.mono (calls_args (by with_reducible rfl) (eqI_any _ _ _ _ R _ hr (M.out.slof 5 rfl) (M.out.slof 3 rfl))) ?_)); rintro e w_ ⟨rfl, N_⟩; have m := M.out.join N_; clear N_; simp only [List.cons_append, List.nil_append, List.append_nil] at m; have M := Lib.hid m; clear m)
    | (go_at_call 50; go_must (first | (refine Calls.mono (calls_args (by with_reducible rfl) (mark64_any 4 M.out _ _ _ _ rfl hr)) ?_)); rintro e w_ ⟨rfl, m⟩; simp only [List.set_cons_succ, List.set_cons_zero] at m; have M := Lib.hid m; clear m)
    | (go_at_call 51; go_must (refine (held64_any _ _ R.length hr _ (M.out.slof 4 rfl)).mono ?_); rintro e w_ ⟨rfl, rfl⟩)
    )
  refine region_anyH (fun w' => Mem w w' [.blk g3 27 F.cells, .blk g4 37 p.vals.toArray, .blk g5 50 c.cells]) (by kernel_rfl) ?_
  have M9 := M.out.drew
  clear M
  apply merge2
  case hA =>
    intro REST0
    have M := Lib.hid M9
    apply takeH (i := 0) 16 rfl (by kernel_rfl) (by kernel_rfl) (by kernel_rfl) (fun _ _ _ h => h) rfl (by first | exact M.out | exact M.out.take 3)
    case' hy => exact yldw _ _ rfl rfl Try.underlying27 rfl (by first | exact sz27 | (rw [S1.out]; exact sz27) | (rw [S2.out]; exact sz27) | (rw [S3.out]; exact sz27)) rfl (fun w' hS => hS.blk 0 rfl)
    try simp only [Act.put, List.getElem_toArray, List.getElem_cons_succ, List.getElem_cons_zero, List.setIfInBounds_toArray, List.set_cons_succ, List.set_cons_zero]
    apply takeH (i := 2) 18 rfl (by kernel_rfl) (by kernel_rfl) (by kernel_rfl) (fun _ _ _ h => h) rfl (by first | exact M.out | exact M.out.take 3)
    case' hy => exact yldw _ _ rfl rfl Try.underlying37 rfl (by first | exact sz37 | (rw [S1.out]; exact sz37) | (rw [S2.out]; exact sz37) | (rw [S3.out]; exact sz37)) rfl (fun w' hS => hS.blk 1 rfl)
    try simp only [Act.put, List.getElem_toArray, List.getElem_cons_succ, List.getElem_cons_zero, List.setIfInBounds_toArray, List.set_cons_succ, List.set_cons_zero]
    apply takeH (i := 4) 20 rfl (by kernel_rfl) (by kernel_rfl) (by kernel_rfl) (fun _ _ _ h => h) rfl (by first | exact M.out | exact M.out.take 3)
    case' hy => exact yldw _ _ rfl rfl Try.underlying50 rfl (by first | exact sz50 | (rw [S1.out]; exact sz50) | (rw [S2.out]; exact sz50) | (rw [S3.out]; exact sz50)) rfl (fun w' hS => hS.blk 2 rfl)
    try simp only [Act.put, List.getElem_toArray, List.getElem_cons_succ, List.getElem_cons_zero, List.setIfInBounds_toArray, List.set_cons_succ, List.set_cons_zero]
    refine any1H 1 (by kernel_rfl) rfl (fun K hK => ?_)
    go_wp2_with (first | (go_at_call 16; go_must (refine (toField_any F hF.toLen _).mono ?_); rintro e w_ ⟨rfl, hB_⟩; have M := Lib.hid (M.out.kept hB_); clear hB_))
    refine onward_normal (hK _ _ ⟨(by first | exact M.out | exact M.out.take 3), ?_⟩)
    clear hK K
    try simp only [Act.put, List.getElem_toArray, List.getElem_cons_succ, List.getElem_cons_zero, List.setIfInBounds_toArray, List.set_cons_succ, List.set_cons_zero]
    refine any1H 3 (by kernel_rfl) rfl (fun K hK => ?_)
    go_wp2_with (first | (go_at_call 22; go_must (refine (toPrices_any p _).mono ?_); rintro e w_ ⟨rfl, N_⟩; have m := M.out.join N_; clear N_; simp only [List.cons_append, List.nil_append, List.append_nil] at m; have M := Lib.hid m; clear m))
    refine onward_normal (hK _ _ ⟨(by first | exact M.out | exact M.out.take 3), ?_⟩)
    clear hK K
    try simp only [Act.put, List.getElem_toArray, List.getElem_cons_succ, List.getElem_cons_zero, List.setIfInBounds_toArray, List.set_cons_succ, List.set_cons_zero]
    refine any1H 5 (by kernel_rfl) rfl (fun K hK => ?_)
    go_wp2_with (first | (go_at_call 33; go_must (refine (toCells_any _ _).mono ?_); rintro e w_ ⟨rfl, hB_⟩; have M := Lib.hid (M.out.kept hB_); clear hB_))
    refine onward_normal (hK _ _ ⟨(by first | exact M.out | exact M.out.take 3), ?_⟩)
    clear hK K
    try simp only [Act.put, List.getElem_toArray, List.getElem_cons_succ, List.getElem_cons_zero, List.setIfInBounds_toArray, List.set_cons_succ, List.set_cons_zero]
    refine any1H 6 (by kernel_rfl) rfl (fun K hK => ?_)
    go_wp2_with (first | (go_at_call 47; go_must (refine (SP.out _).mono ?_); rintro e w_ ⟨A22, c22, rfl, hc22, N_⟩; have m := M.out.join N_; clear N_; simp only [List.cons_append, List.nil_append, List.append_nil] at m; have M := Lib.hid m; clear m))
    refine onward_normal (hK _ _ ⟨(by first | exact M.out | exact M.out.take 3), ?_⟩)
    clear hK K
    try simp only [Act.put, List.getElem_toArray, List.getElem_cons_succ, List.getElem_cons_zero, List.setIfInBounds_toArray, List.set_cons_succ, List.set_cons_zero]
    apply takeH (i := 7) 15 rfl (by kernel_rfl) (by kernel_rfl) (by kernel_rfl) (fun _ _ _ h => h) rfl (by first | exact M.out | exact M.out.take 3)
    case' hy =>
      refine Or.inl ⟨by first | rfl | (go_simp; done), ?_⟩
      intro w hS
      clear hS
      go_simp
      try with_reducible rfl
    try simp only [Act.put, List.getElem_toArray, List.getElem_cons_succ, List.getElem_cons_zero, List.setIfInBounds_toArray, List.set_cons_succ, List.set_cons_zero]
    apply takeH (i := 8) 23 rfl (by kernel_rfl) (by kernel_rfl) (by kernel_rfl) (fun _ _ _ h => h) rfl (by first | exact M.out | exact M.out.take 3)
    case' hy =>
      refine Or.inl ⟨by first | rfl | (go_simp; done), ?_⟩
      intro w hS
      clear hS
      go_simp
      try with_reducible rfl
    try simp only [Act.put, List.getElem_toArray, List.getElem_cons_succ, List.getElem_cons_zero, List.setIfInBounds_toArray, List.set_cons_succ, List.set_cons_zero]
    apply takeH (i := 9) 24 rfl (by kernel_rfl) (by kernel_rfl) (by kernel_rfl) (fun _ _ _ h => h) rfl (by first | exact M.out | exact M.out.take 3)
    case' hy =>
      refine Or.inl ⟨by first | rfl | (go_simp; done), ?_⟩
      intro w hS
      clear hS
      go_simp
      try with_reducible rfl
    try simp only [Act.put, List.getElem_toArray, List.getElem_cons_succ, List.getElem_cons_zero, List.setIfInBounds_toArray, List.set_cons_succ, List.set_cons_zero]
    apply takeH (i := 10) 7 rfl (by kernel_rfl) (by kernel_rfl) (by kernel_rfl) (fun _ _ _ h => h) rfl (by first | exact M.out | exact M.out.take 3)
    case' hy =>
      refine Or.inl ⟨by first | rfl | (go_simp; done), ?_⟩
      intro w hS
      clear hS
      go_simp
      try with_reducible rfl
    try simp only [Act.put, List.getElem_toArray, List.getElem_cons_succ, List.getElem_cons_zero, List.setIfInBounds_toArray, List.set_cons_succ, List.set_cons_zero]
    apply takeH (i := 11) 8 rfl (by kernel_rfl) (by kernel_rfl) (by kernel_rfl) (fun _ _ _ h => h) rfl (by first | exact M.out | exact M.out.take 3)
    case' hy =>
      refine Or.inl ⟨by first | rfl | (go_simp; done), ?_⟩
      intro w hS
      clear hS
      go_simp
      try with_reducible rfl
    try simp only [Act.put, List.getElem_toArray, List.getElem_cons_succ, List.getElem_cons_zero, List.setIfInBounds_toArray, List.set_cons_succ, List.set_cons_zero]
    exact REST0 A22 c22 w_ M.out
  intro A22 c22 w_ m
  have M := Lib.hid m
  clear m M9
  refine wpAnyH_done (by kernel_rfl) ?_ _
  go_wp2_with (first
    | ((with_reducible refine gate_dst (N := 3) rfl ?_); go_must (refine M.out.ev_new rfl (by first | (go_simp; done) | (go_simp; rfl)) ?_); intro g3 w3 m; simp only [List.cons_append, List.nil_append] at m; have M := Lib.hid m; clear m)
    | ((with_reducible refine gate_dst (N := 4) rfl ?_); go_must (refine M.out.ev_new rfl (by first | (go_simp; done) | (go_simp; rfl)) ?_); intro g4 w4 m; simp only [List.cons_append, List.nil_append] at m; have M := Lib.hid m; clear m)
    | ((with_reducible refine gate_dst (N := 5) rfl ?_); go_must (refine M.out.ev_new rfl (by first | (go_simp; done) | (go_simp; rfl)) ?_); intro g5 w5 m; simp only [List.cons_append, List.nil_append] at m; have M := Lib.hid m; clear m)
    | ((with_reducible refine gate_dst (N := 16) rfl ?_); go_must (refine M.out.ev_ldw 0 _ _ rfl rfl rfl Try.underlying27 rfl (by first | exact sz27 | (rw [S1.out]; exact sz27) | (rw [S2.out]; exact sz27) | (rw [S3.out]; exact sz27)) rfl ?_))
    | ((with_reducible refine gate_dst (N := 18) rfl ?_); go_must (refine M.out.ev_ldw 1 _ _ rfl rfl rfl Try.underlying37 rfl (by first | exact sz37 | (rw [S1.out]; exact sz37) | (rw [S2.out]; exact sz37) | (rw [S3.out]; exact sz37)) rfl ?_))
    | ((with_reducible refine gate_dst (N := 20) rfl ?_); go_must (refine M.out.ev_ldw 2 _ _ rfl rfl rfl Try.underlying50 rfl (by first | exact sz50 | (rw [S1.out]; exact sz50) | (rw [S2.out]; exact sz50) | (rw [S3.out]; exact sz50)) rfl ?_))
    | ((with_reducible refine gate_dst (N := 26) rfl ?_); go_must (refine M.out.ev_ldw 0 _ _ rfl rfl rfl Try.underlying27 rfl (by first | exact sz27 | (rw [S1.out]; exact sz27) | (rw [S2.out]; exact sz27) | (rw [S3.out]; exact sz27)) rfl ?_))
    | ((with_reducible refine gate_dst (N := 28) rfl ?_); go_must (refine M.out.ev_ldw 1 _ _ rfl rfl rfl Try.underlying37 rfl (by first | exact sz37 | (rw [S1.out]; exact sz37) | (rw [S2.out]; exact sz37) | (rw [S3.out]; exact sz37)) rfl ?_))
    | ((with_reducible refine gate_dst (N := 30) rfl ?_); go_must (refine M.out.ev_ldw 2 _ _ rfl rfl rfl Try.underlying50 rfl (by first | exact sz50 | (rw [S1.out]; exact sz50) | (rw [S2.out]; exact sz50) | (rw [S3.out]; exact sz50)) rfl ?_))
    | ((with_reducible refine gate_dst (N := 56) rfl ?_); go_must (refine M.out.ev_ldw 0 _ _ rfl rfl rfl Try.underlying27 rfl (by first | exact sz27 | (rw [S1.out]; exact sz27) | (rw [S2.out]; exact sz27) | (rw [S3.out]; exact sz27)) rfl ?_))
    | ((with_reducible refine gate_dst (N := 58) rfl ?_); go_must (refine M.out.ev_ldw 1 _ _ rfl rfl rfl Try.underlying37 rfl (by first | exact sz37 | (rw [S1.out]; exact sz37) | (rw [S2.out]; exact sz37) | (rw [S3.out]; exact sz37)) rfl ?_))
    | ((with_reducible refine gate_dst (N := 60) rfl ?_); go_must (refine M.out.ev_ldw 2 _ _ rfl rfl rfl Try.underlying50 rfl (by first | exact sz50 | (rw [S1.out]; exact sz50) | (rw [S2.out]; exact sz50) | (rw [S3.out]; exact sz50)) rfl ?_))
    | (go_at_call 16; go_must (refine (toField_any F hF.toLen _).mono ?_); rintro e w_ ⟨rfl, hB_⟩; have M := Lib.hid (M.out.kept hB_); clear hB_)
    | (go_at_call 22; go_must (refine (toPrices_any p _).mono ?_); rintro e w_ ⟨rfl, N_⟩; have m := M.out.join N_; clear N_; simp only [List.cons_append, List.nil_append, List.append_nil] at m; have M := Lib.hid m; clear m)
    | (go_at_call 33; go_must (refine (toCells_any _ _).mono ?_); rintro e w_ ⟨rfl, hB_⟩; have M := Lib.hid (M.out.kept hB_); clear hB_)
    | (go_at_call 49; go_must (first | (refine Calls.mono (calls_args (by with_reducible rfl) (eqI_any _ _ _ _ R _ hr (M.out.slof 4 rfl) (M.out.slof 3 rfl))) ?_) | (refine Calls.mono (calls_args (by with_reducible rfl) (eqI_any _ _ _ _ R _ hr (M.out.slof 5 rfl) (M.out.slof 3 rfl))) ?_)); rintro e w_ ⟨rfl, N_⟩; have m := M.out.join N_; clear N_; simp only [List.cons_append, List.nil_append, List.append_nil] at m; have M := Lib.hid m; clear m)
    | (go_at_call 50; go_must (first | (refine Calls.mono (calls_args (by with_reducible rfl) (mark64_any 4 M.out _ _ _ _ rfl hr)) ?_)); rintro e w_ ⟨rfl, m⟩; simp only [List.set_cons_succ, List.set_cons_zero] at m; have M := Lib.hid m; clear m)
    | (go_at_call 51; go_must (refine (held64_any _ _ R.length hr _ (M.out.slof 4 rfl)).mono ?_); rintro e w_ ⟨rfl, rfl⟩)
    )
  refine region_anyH (fun w' => Mem w w' [.blk g3 27 F.cells, .blk g4 37 p.vals.toArray, .blk g5 50 c.cells]) (by kernel_rfl) ?_
  have M9 := M.out.drew
  clear M
  apply merge2
  case hA =>
    intro REST0
    have M := Lib.hid M9
    apply takeH (i := 0) 26 rfl (by kernel_rfl) (by kernel_rfl) (by kernel_rfl) (fun _ _ _ h => h) rfl (by first | exact M.out | exact M.out.take 3)
    case' hy => exact yldw _ _ rfl rfl Try.underlying27 rfl (by first | exact sz27 | (rw [S1.out]; exact sz27) | (rw [S2.out]; exact sz27) | (rw [S3.out]; exact sz27)) rfl (fun w' hS => hS.blk 0 rfl)
    try simp only [Act.put, List.getElem_toArray, List.getElem_cons_succ, List.getElem_cons_zero, List.setIfInBounds_toArray, List.set_cons_succ, List.set_cons_zero]
    apply takeH (i := 2) 28 rfl (by kernel_rfl) (by kernel_rfl) (by kernel_rfl) (fun _ _ _ h => h) rfl (by first | exact M.out | exact M.out.take 3)
    case' hy => exact yldw _ _ rfl rfl Try.underlying37 rfl (by first | exact sz37 | (rw [S1.out]; exact sz37) | (rw [S2.out]; exact sz37) | (rw [S3.out]; exact sz37)) rfl (fun w' hS => hS.blk 1 rfl)
    try simp only [Act.put, List.getElem_toArray, List.getElem_cons_succ, List.getElem_cons_zero, List.setIfInBounds_toArray, List.set_cons_succ, List.set_cons_zero]
    apply takeH (i := 4) 30 rfl (by kernel_rfl) (by kernel_rfl) (by kernel_rfl) (fun _ _ _ h => h) rfl (by first | exact M.out | exact M.out.take 3)
    case' hy => exact yldw _ _ rfl rfl Try.underlying50 rfl (by first | exact sz50 | (rw [S1.out]; exact sz50) | (rw [S2.out]; exact sz50) | (rw [S3.out]; exact sz50)) rfl (fun w' hS => hS.blk 2 rfl)
    try simp only [Act.put, List.getElem_toArray, List.getElem_cons_succ, List.getElem_cons_zero, List.setIfInBounds_toArray, List.set_cons_succ, List.set_cons_zero]
    refine any1H 1 (by kernel_rfl) rfl (fun K hK => ?_)
    go_wp2_with (first | (go_at_call 16; go_must (refine (toField_any F hF.toLen _).mono ?_); rintro e w_ ⟨rfl, hB_⟩; have M := Lib.hid (M.out.kept hB_); clear hB_))
    refine onward_normal (hK _ _ ⟨(by first | exact M.out | exact M.out.take 3), ?_⟩)
    clear hK K
    try simp only [Act.put, List.getElem_toArray, List.getElem_cons_succ, List.getElem_cons_zero, List.setIfInBounds_toArray, List.set_cons_succ, List.set_cons_zero]
    refine any1H 3 (by kernel_rfl) rfl (fun K hK => ?_)
    go_wp2_with (first | (go_at_call 22; go_must (refine (toPrices_any p _).mono ?_); rintro e w_ ⟨rfl, N_⟩; have m := M.out.join N_; clear N_; simp only [List.cons_append, List.nil_append, List.append_nil] at m; have M := Lib.hid m; clear m))
    refine onward_normal (hK _ _ ⟨(by first | exact M.out | exact M.out.take 3), ?_⟩)
    clear hK K
    try simp only [Act.put, List.getElem_toArray, List.getElem_cons_succ, List.getElem_cons_zero, List.setIfInBounds_toArray, List.set_cons_succ, List.set_cons_zero]
    refine any1H 5 (by kernel_rfl) rfl (fun K hK => ?_)
    go_wp2_with (first | (go_at_call 33; go_must (refine (toCells_any _ _).mono ?_); rintro e w_ ⟨rfl, hB_⟩; have M := Lib.hid (M.out.kept hB_); clear hB_))
    refine onward_normal (hK _ _ ⟨(by first | exact M.out | exact M.out.take 3), ?_⟩)
    clear hK K
    try simp only [Act.put, List.getElem_toArray, List.getElem_cons_succ, List.getElem_cons_zero, List.setIfInBounds_toArray, List.set_cons_succ, List.set_cons_zero]
    refine any1H 6 (by kernel_rfl) rfl (fun K hK => ?_)
    go_wp2_with (first | (go_at_call 48; go_must (refine (IM.out _).mono ?_); rintro e w_ ⟨A32, c32, rfl, hc32, N_⟩; have m := M.out.join N_; clear N_; simp only [List.cons_append, List.nil_append, List.append_nil] at m; have M := Lib.hid m; clear m))
    refine onward_normal (hK _ _ ⟨(by first | exact M.out | exact M.out.take 3), ?_⟩)
    clear hK K
    try simp only [Act.put, List.getElem_toArray, List.getElem_cons_succ, List.getElem_cons_zero, List.setIfInBounds_toArray, List.set_cons_succ, List.set_cons_zero]
    apply takeH (i := 7) 25 rfl (by kernel_rfl) (by kernel_rfl) (by kernel_rfl) (fun _ _ _ h => h) rfl (by first | exact M.out | exact M.out.take 3)
    case' hy =>
      refine Or.inl ⟨by first | rfl | (go_simp; done), ?_⟩
      intro w hS
      clear hS
      go_simp
      try with_reducible rfl
    try simp only [Act.put, List.getElem_toArray, List.getElem_cons_succ, List.getElem_cons_zero, List.setIfInBounds_toArray, List.set_cons_succ, List.set_cons_zero]
    apply takeH (i := 8) 33 rfl (by kernel_rfl) (by kernel_rfl) (by kernel_rfl) (fun _ _ _ h => h) rfl (by first | exact M.out | exact M.out.take 3)
    case' hy =>
      refine Or.inl ⟨by first | rfl | (go_simp; done), ?_⟩
      intro w hS
      clear hS
      go_simp
      try with_reducible rfl
    try simp only [Act.put, List.getElem_toArray, List.getElem_cons_succ, List.getElem_cons_zero, List.setIfInBounds_toArray, List.set_cons_succ, List.set_cons_zero]
    apply takeH (i := 9) 34 rfl (by kernel_rfl) (by kernel_rfl) (by kernel_rfl) (fun _ _ _ h => h) rfl (by first | exact M.out | exact M.out.take 3)
    case' hy =>
      refine Or.inl ⟨by first | rfl | (go_simp; done), ?_⟩
      intro w hS
      clear hS
      go_simp
      try with_reducible rfl
    try simp only [Act.put, List.getElem_toArray, List.getElem_cons_succ, List.getElem_cons_zero, List.setIfInBounds_toArray, List.set_cons_succ, List.set_cons_zero]
    apply takeH (i := 10) 9 rfl (by kernel_rfl) (by kernel_rfl) (by kernel_rfl) (fun _ _ _ h => h) rfl (by first | exact M.out | exact M.out.take 3)
    case' hy =>
      refine Or.inl ⟨by first | rfl | (go_simp; done), ?_⟩
      intro w hS
      clear hS
      go_simp
      try with_reducible rfl
    try simp only [Act.put, List.getElem_toArray, List.getElem_cons_succ, List.getElem_cons_zero, List.setIfInBounds_toArray, List.set_cons_succ, List.set_cons_zero]
    apply takeH (i := 11) 10 rfl (by kernel_rfl) (by kernel_rfl) (by kernel_rfl) (fun _ _ _ h => h) rfl (by first | exact M.out | exact M.out.take 3)
    case' hy =>
      refine Or.inl ⟨by first | rfl | (go_simp; done), ?_⟩
      intro w hS
      clear hS
      go_simp
      try with_reducible rfl
    try simp only [Act.put, List.getElem_toArray, List.getElem_cons_succ, List.getElem_cons_zero, List.setIfInBounds_toArray, List.set_cons_succ, List.set_cons_zero]
    exact REST0 A32 c32 w_ M.out
  intro A32 c32 w_ m
  have M := Lib.hid m
  clear m M9
  refine wpAnyH_done (by kernel_rfl) ?_ _
  go_wp2_with (first
    | ((with_reducible refine gate_dst (N := 3) rfl ?_); go_must (refine M.out.ev_new rfl (by first | (go_simp; done) | (go_simp; rfl)) ?_); intro g3 w3 m; simp only [List.cons_append, List.nil_append] at m; have M := Lib.hid m; clear m)
    | ((with_reducible refine gate_dst (N := 4) rfl ?_); go_must (refine M.out.ev_new rfl (by first | (go_simp; done) | (go_simp; rfl)) ?_); intro g4 w4 m; simp only [List.cons_append, List.nil_append] at m; have M := Lib.hid m; clear m)
    | ((with_reducible refine gate_dst (N := 5) rfl ?_); go_must (refine M.out.ev_new rfl (by first | (go_simp; done) | (go_simp; rfl)) ?_); intro g5 w5 m; simp only [List.cons_append, List.nil_append] at m; have M := Lib.hid m; clear m)
    | ((with_reducible refine gate_dst (N := 16) rfl ?_); go_must (refine M.out.ev_ldw 0 _ _ rfl rfl rfl Try.underlying27 rfl (by first | exact sz27 | (rw [S1.out]; exact sz27) | (rw [S2.out]; exact sz27) | (rw [S3.out]; exact sz27)) rfl ?_))
    | ((with_reducible refine gate_dst (N := 18) rfl ?_); go_must (refine M.out.ev_ldw 1 _ _ rfl rfl rfl Try.underlying37 rfl (by first | exact sz37 | (rw [S1.out]; exact sz37) | (rw [S2.out]; exact sz37) | (rw [S3.out]; exact sz37)) rfl ?_))
    | ((with_reducible refine gate_dst (N := 20) rfl ?_); go_must (refine M.out.ev_ldw 2 _ _ rfl rfl rfl Try.underlying50 rfl (by first | exact sz50 | (rw [S1.out]; exact sz50) | (rw [S2.out]; exact sz50) | (rw [S3.out]; exact sz50)) rfl ?_))
    | ((with_reducible refine gate_dst (N := 26) rfl ?_); go_must (refine M.out.ev_ldw 0 _ _ rfl rfl rfl Try.underlying27 rfl (by first | exact sz27 | (rw [S1.out]; exact sz27) | (rw [S2.out]; exact sz27) | (rw [S3.out]; exact sz27)) rfl ?_))
    | ((with_reducible refine gate_dst (N := 28) rfl ?_); go_must (refine M.out.ev_ldw 1 _ _ rfl rfl rfl Try.underlying37 rfl (by first | exact sz37 | (rw [S1.out]; exact sz37) | (rw [S2.out]; exact sz37) | (rw [S3.out]; exact sz37)) rfl ?_))
    | ((with_reducible refine gate_dst (N := 30) rfl ?_); go_must (refine M.out.ev_ldw 2 _ _ rfl rfl rfl Try.underlying50 rfl (by first | exact sz50 | (rw [S1.out]; exact sz50) | (rw [S2.out]; exact sz50) | (rw [S3.out]; exact sz50)) rfl ?_))
    | ((with_reducible refine gate_dst (N := 56) rfl ?_); go_must (refine M.out.ev_ldw 0 _ _ rfl rfl rfl Try.underlying27 rfl (by first | exact sz27 | (rw [S1.out]; exact sz27) | (rw [S2.out]; exact sz27) | (rw [S3.out]; exact sz27)) rfl ?_))
    | ((with_reducible refine gate_dst (N := 58) rfl ?_); go_must (refine M.out.ev_ldw 1 _ _ rfl rfl rfl Try.underlying37 rfl (by first | exact sz37 | (rw [S1.out]; exact sz37) | (rw [S2.out]; exact sz37) | (rw [S3.out]; exact sz37)) rfl ?_))
    | ((with_reducible refine gate_dst (N := 60) rfl ?_); go_must (refine M.out.ev_ldw 2 _ _ rfl rfl rfl Try.underlying50 rfl (by first | exact sz50 | (rw [S1.out]; exact sz50) | (rw [S2.out]; exact sz50) | (rw [S3.out]; exact sz50)) rfl ?_))
    | (go_at_call 16; go_must (refine (toField_any F hF.toLen _).mono ?_); rintro e w_ ⟨rfl, hB_⟩; have M := Lib.hid (M.out.kept hB_); clear hB_)
    | (go_at_call 22; go_must (refine (toPrices_any p _).mono ?_); rintro e w_ ⟨rfl, N_⟩; have m := M.out.join N_; clear N_; simp only [List.cons_append, List.nil_append, List.append_nil] at m; have M := Lib.hid m; clear m)
    | (go_at_call 33; go_must (refine (toCells_any _ _).mono ?_); rintro e w_ ⟨rfl, hB_⟩; have M := Lib.hid (M.out.kept hB_); clear hB_)
    | (go_at_call 49; go_must (first | (refine Calls.mono (calls_args (by with_reducible rfl) (eqI_any _ _ _ _ R _ hr (M.out.slof 4 rfl) (M.out.slof 3 rfl))) ?_) | (refine Calls.mono (calls_args (by with_reducible rfl) (eqI_any _ _ _ _ R _ hr (M.out.slof 5 rfl) (M.out.slof 3 rfl))) ?_)); rintro e w_ ⟨rfl, N_⟩; have m := M.out.join N_; clear N_; simp only [List.cons_append, List.nil_append, List.append_nil] at m; have M := Lib.hid m; clear m)
    | (go_at_call 50; go_must (first | (refine Calls.mono (calls_args (by with_reducible rfl) (mark64_any 4 M.out _ _ _ _ rfl hr)) ?_)); rintro e w_ ⟨rfl, m⟩; simp only [List.set_cons_succ, List.set_cons_zero] at m; have M := Lib.hid m; clear m)
    | (go_at_call 51; go_must (refine (held64_any _ _ R.length hr _ (M.out.slof 4 rfl)).mono ?_); rintro e w_ ⟨rfl, rfl⟩)
    )
  refine region_anyH (fun w' => Mem w w' [.blk g3 27 F.cells, .blk g4 37 p.vals.toArray, .blk g5 50 c.cells]) (by kernel_rfl) ?_
  have M9 := M.out.drew
  clear M
  apply merge2
  case hA =>
    intro REST0
    have M := Lib.hid M9
    apply takeH (i := 0) 56 rfl (by kernel_rfl) (by kernel_rfl) (by kernel_rfl) (fun _ _ _ h => h) rfl (by first | exact M.out | exact M.out.take 3)
    case' hy => exact yldw _ _ rfl rfl Try.underlying27 rfl (by first | exact sz27 | (rw [S1.out]; exact sz27) | (rw [S2.out]; exact sz27) | (rw [S3.out]; exact sz27)) rfl (fun w' hS => hS.blk 0 rfl)
    try simp only [Act.put, List.getElem_toArray, List.getElem_cons_succ, List.getElem_cons_zero, List.setIfInBounds_toArray, List.set_cons_succ, List.set_cons_zero]
    apply takeH (i := 2) 58 rfl (by kernel_rfl) (by kernel_rfl) (by kernel_rfl) (fun _ _ _ h => h) rfl (by first | exact M.out | exact M.out.take 3)
    case' hy => exact yldw _ _ rfl rfl Try.underlying37 rfl (by first | exact sz37 | (rw [S1.out]; exact sz37) | (rw [S2.out]; exact sz37) | (rw [S3.out]; exact sz37)) rfl (fun w' hS => hS.blk 1 rfl)
    try simp only [Act.put, List.getElem_toArray, List.getElem_cons_succ, List.getElem_cons_zero, List.setIfInBounds_toArray, List.set_cons_succ, List.set_cons_zero]
    apply takeH (i := 4) 60 rfl (by kernel_rfl) (by kernel_rfl) (by kernel_rfl) (fun _ _ _ h => h) rfl (by first | exact M.out | exact M.out.take 3)
    case' hy => exact yldw _ _ rfl rfl Try.underlying50 rfl (by first | exact sz50 | (rw [S1.out]; exact sz50) | (rw [S2.out]; exact sz50) | (rw [S3.out]; exact sz50)) rfl (fun w' hS => hS.blk 2 rfl)
    try simp only [Act.put, List.getElem_toArray, List.getElem_cons_succ, List.getElem_cons_zero, List.setIfInBounds_toArray, List.set_cons_succ, List.set_cons_zero]
    refine any1H 1 (by kernel_rfl) rfl (fun K hK => ?_)
    go_wp2_with (first | (go_at_call 16; go_must (refine (toField_any F hF.toLen _).mono ?_); rintro e w_ ⟨rfl, hB_⟩; have M := Lib.hid (M.out.kept hB_); clear hB_))
    refine onward_normal (hK _ _ ⟨(by first | exact M.out | exact M.out.take 3), ?_⟩)
    clear hK K
    try simp only [Act.put, List.getElem_toArray, List.getElem_cons_succ, List.getElem_cons_zero, List.setIfInBounds_toArray, List.set_cons_succ, List.set_cons_zero]
    refine any1H 3 (by kernel_rfl) rfl (fun K hK => ?_)
    go_wp2_with (first | (go_at_call 22; go_must (refine (toPrices_any p _).mono ?_); rintro e w_ ⟨rfl, N_⟩; have m := M.out.join N_; clear N_; simp only [List.cons_append, List.nil_append, List.append_nil] at m; have M := Lib.hid m; clear m))
    refine onward_normal (hK _ _ ⟨(by first | exact M.out | exact M.out.take 3), ?_⟩)
    clear hK K
    try simp only [Act.put, List.getElem_toArray, List.getElem_cons_succ, List.getElem_cons_zero, List.setIfInBounds_toArray, List.set_cons_succ, List.set_cons_zero]
    refine any1H 5 (by kernel_rfl) rfl (fun K hK => ?_)
    go_wp2_with (first | (go_at_call 33; go_must (refine (toCells_any _ _).mono ?_); rintro e w_ ⟨rfl, hB_⟩; have M := Lib.hid (M.out.kept hB_); clear hB_))
    refine onward_normal (hK _ _ ⟨(by first | exact M.out | exact M.out.take 3), ?_⟩)
    clear hK K
    try simp only [Act.put, List.getElem_toArray, List.getElem_cons_succ, List.getElem_cons_zero, List.setIfInBounds_toArray, List.set_cons_succ, List.set_cons_zero]
    refine any1H 6 (by kernel_rfl) rfl (fun K hK => ?_)
    go_wp2_with (first | (go_at_call 48; go_must (refine (IM.out _).mono ?_); rintro e w_ ⟨A62, c62, rfl, hc62, N_⟩; have m := M.out.join N_; clear N_; simp only [List.cons_append, List.nil_append, List.append_nil] at m; have M := Lib.hid m; clear m))
    refine onward_normal (hK _ _ ⟨(by first | exact M.out | exact M.out.take 3), ?_⟩)
    clear hK K
    try simp only [Act.put, List.getElem_toArray, List.getElem_cons_succ, List.getElem_cons_zero, List.setIfInBounds_toArray, List.set_cons_succ, List.set_cons_zero]
    apply takeH (i := 7) 55 rfl (by kernel_rfl) (by kernel_rfl) (by kernel_rfl) (fun _ _ _ h => h) rfl (by first | exact M.out | exact M.out.take 3)
    case' hy =>
      refine Or.inl ⟨by first | rfl | (go_simp; done), ?_⟩
      intro w hS
      clear hS
      go_simp
      try with_reducible rfl
    try simp only [Act.put, List.getElem_toArray, List.getElem_cons_succ, List.getElem_cons_zero, List.setIfInBounds_toArray, List.set_cons_succ, List.set_cons_zero]
    apply takeH (i := 8) 63 rfl (by kernel_rfl) (by kernel_rfl) (by kernel_rfl) (fun _ _ _ h => h) rfl (by first | exact M.out | exact M.out.take 3)
    case' hy =>
      refine Or.inl ⟨by first | rfl | (go_simp; done), ?_⟩
      intro w hS
      clear hS
      go_simp
      try with_reducible rfl
    try simp only [Act.put, List.getElem_toArray, List.getElem_cons_succ, List.getElem_cons_zero, List.setIfInBounds_toArray, List.set_cons_succ, List.set_cons_zero]
    apply takeH (i := 9) 64 rfl (by kernel_rfl) (by kernel_rfl) (by kernel_rfl) (fun _ _ _ h => h) rfl (by first | exact M.out | exact M.out.take 3)
    case' hy =>
      refine Or.inl ⟨by first | rfl | (go_simp; done), ?_⟩
      intro w hS
      clear hS
      go_simp
      try with_reducible rfl
    try simp only [Act.put, List.getElem_toArray, List.getElem_cons_succ, List.getElem_cons_zero, List.setIfInBounds_toArray, List.set_cons_succ, List.set_cons_zero]
    apply takeH (i := 10) 13 rfl (by kernel_rfl) (by kernel_rfl) (by kernel_rfl) (fun _ _ _ h => h) rfl (by first | exact M.out | exact M.out.take 3)
    case' hy =>
      refine Or.inl ⟨by first | rfl | (go_simp; done), ?_⟩
      intro w hS
      clear hS
      go_simp
      try with_reducible rfl
    try simp only [Act.put, List.getElem_toArray, List.getElem_cons_succ, List.getElem_cons_zero, List.setIfInBounds_toArray, List.set_cons_succ, List.set_cons_zero]
    apply takeH (i := 11) 14 rfl (by kernel_rfl) (by kernel_rfl) (by kernel_rfl) (fun _ _ _ h => h) rfl (by first | exact M.out | exact M.out.take 3)
    case' hy =>
      refine Or.inl ⟨by first | rfl | (go_simp; done), ?_⟩
      intro w hS
      clear hS
      go_simp
      try with_reducible rfl
    try simp only [Act.put, List.getElem_toArray, List.getElem_cons_succ, List.getElem_cons_zero, List.setIfInBounds_toArray, List.set_cons_succ, List.set_cons_zero]
    exact REST0 A62 c62 w_ M.out
  intro A62 c62 w_ m
  have M := Lib.hid m
  clear m M9
  refine wpAnyH_done (by kernel_rfl) ?_ _
  go_wp2_with (first
    | ((with_reducible refine gate_dst (N := 3) rfl ?_); go_must (refine M.out.ev_new rfl (by first | (go_simp; done) | (go_simp; rfl)) ?_); intro g3 w3 m; simp only [List.cons_append, List.nil_append] at m; have M := Lib.hid m; clear m)
    | ((with_reducible refine gate_dst (N := 4) rfl ?_); go_must (refine M.out.ev_new rfl (by first | (go_simp; done) | (go_simp; rfl)) ?_); intro g4 w4 m; simp only [List.cons_append, List.nil_append] at m; have M := Lib.hid m; clear m)
    | ((with_reducible refine gate_dst (N := 5) rfl ?_); go_must (refine M.out.ev_new rfl (by first | (go_simp; done) | (go_simp; rfl)) ?_); intro g5 w5 m; simp only [List.cons_append, List.nil_append] at m; have M := Lib.hid m; clear m)
    | ((with_reducible refine gate_dst (N := 16) rfl ?_); go_must (refine M.out.ev_ldw 0 _ _ rfl rfl rfl Try.underlying27 rfl (by first | exact sz27 | (rw [S1.out]; exact sz27) | (rw [S2.out]; exact sz27) | (rw [S3.out]; exact sz27)) rfl ?_))
    | ((with_reducible refine gate_dst (N := 18) rfl ?_); go_must (refine M.out.ev_ldw 1 _ _ rfl rfl rfl Try.underlying37 rfl (by first | exact sz37 | (rw [S1.out]; exact sz37) | (rw [S2.out]; exact sz37) | (rw [S3.out]; exact sz37)) rfl ?_))
    | ((with_reducible refine gate_dst (N := 20) rfl ?_); go_must (refine M.out.ev_ldw 2 _ _ rfl rfl rfl Try.underlying50 rfl (by first | exact sz50 | (rw [S1.out]; exact sz50) | (rw [S2.out]; exact sz50) | (rw [S3.out]; exact sz50)) rfl ?_))
    | ((with_reducible refine gate_dst (N := 26) rfl ?_); go_must (refine M.out.ev_ldw 0 _ _ rfl rfl rfl Try.underlying27 rfl (by first | exact sz27 | (rw [S1.out]; exact sz27) | (rw [S2.out]; exact sz27) | (rw [S3.out]; exact sz27)) rfl ?_))
    | ((with_reducible refine gate_dst (N := 28) rfl ?_); go_must (refine M.out.ev_ldw 1 _ _ rfl rfl rfl Try.underlying37 rfl (by first | exact sz37 | (rw [S1.out]; exact sz37) | (rw [S2.out]; exact sz37) | (rw [S3.out]; exact sz37)) rfl ?_))
    | ((with_reducible refine gate_dst (N := 30) rfl ?_); go_must (refine M.out.ev_ldw 2 _ _ rfl rfl rfl Try.underlying50 rfl (by first | exact sz50 | (rw [S1.out]; exact sz50) | (rw [S2.out]; exact sz50) | (rw [S3.out]; exact sz50)) rfl ?_))
    | ((with_reducible refine gate_dst (N := 56) rfl ?_); go_must (refine M.out.ev_ldw 0 _ _ rfl rfl rfl Try.underlying27 rfl (by first | exact sz27 | (rw [S1.out]; exact sz27) | (rw [S2.out]; exact sz27) | (rw [S3.out]; exact sz27)) rfl ?_))
    | ((with_reducible refine gate_dst (N := 58) rfl ?_); go_must (refine M.out.ev_ldw 1 _ _ rfl rfl rfl Try.underlying37 rfl (by first | exact sz37 | (rw [S1.out]; exact sz37) | (rw [S2.out]; exact sz37) | (rw [S3.out]; exact sz37)) rfl ?_))
    | ((with_reducible refine gate_dst (N := 60) rfl ?_); go_must (refine M.out.ev_ldw 2 _ _ rfl rfl rfl Try.underlying50 rfl (by first | exact sz50 | (rw [S1.out]; exact sz50) | (rw [S2.out]; exact sz50) | (rw [S3.out]; exact sz50)) rfl ?_))
    | (go_at_call 16; go_must (refine (toField_any F hF.toLen _).mono ?_); rintro e w_ ⟨rfl, hB_⟩; have M := Lib.hid (M.out.kept hB_); clear hB_)
    | (go_at_call 22; go_must (refine (toPrices_any p _).mono ?_); rintro e w_ ⟨rfl, N_⟩; have m := M.out.join N_; clear N_; simp only [List.cons_append, List.nil_append, List.append_nil] at m; have M := Lib.hid m; clear m)
    | (go_at_call 33; go_must (refine (toCells_any _ _).mono ?_); rintro e w_ ⟨rfl, hB_⟩; have M := Lib.hid (M.out.kept hB_); clear hB_)
    | (go_at_call 49; go_must (first | (refine Calls.mono (calls_args (by with_reducible rfl) (eqI_any _ _ _ _ R _ hr (M.out.slof 4 rfl) (M.out.slof 3 rfl))) ?_) | (refine Calls.mono (calls_args (by with_reducible rfl) (eqI_any _ _ _ _ R _ hr (M.out.slof 5 rfl) (M.out.slof 3 rfl))) ?_)); rintro e w_ ⟨rfl, N_⟩; have m := M.out.join N_; clear N_; simp only [List.cons_append, List.nil_append, List.append_nil] at m; have M := Lib.hid m; clear m)
    | (go_at_call 50; go_must (first | (refine Calls.mono (calls_args (by with_reducible rfl) (mark64_any 4 M.out _ _ _ _ rfl hr)) ?_)); rintro e w_ ⟨rfl, m⟩; simp only [List.set_cons_succ, List.set_cons_zero] at m; have M := Lib.hid m; clear m)
    | (go_at_call 51; go_must (refine (held64_any _ _ R.length hr _ (M.out.slof 4 rfl)).mono ?_); rintro e w_ ⟨rfl, rfl⟩)
    )
  go_ret
  exact ⟨ret_bool rfl, M.out.take 0⟩
end Go.Proofs.Ytnddoiapilookaa
