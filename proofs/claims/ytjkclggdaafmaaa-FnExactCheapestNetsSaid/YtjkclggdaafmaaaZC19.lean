/- Texts of a proof, laid together: CheapNLaw, Entry, Diary. -/
import Derived.Test.YtjkclggdaafmaaaZC16
import Derived.Test.YtjkclggdaafmaaaZC18
import Derived.Test.YtjkclggdaafmaaaZC04
import Derived.Test.YtjkclggdaafmaaaZC00
import Derived.Test.YtjkclggdaafmaaaZC01
import Derived.Test.YtjkclggdaafmaaaZC02
namespace Go.Proofs.Ytjkclggdaafmaaa
set_option linter.unusedSimpArgs false
set_option linter.unusedVariables false
open Go.RowKit
attribute [local go_sem] cell?_mk frozen?_mk
--ONES exact Cs.one _ | exact Prices.one _
set_option maxRecDepth 100000 in
set_option maxHeartbeats 8000000 in
theorem lawCheapestNets_any (F : Fld) (hF : F.ok) (p : Prices) (hp : p.ok) (c : Cs) (hcc : c.ok) (b : Int) (w : World) :
    Calls Try.prog 3 #[.agg F.cells, .agg p.vals.toArray, .agg c.cells, .int .i64 b] w fun e w' => e = .returned (.bool true) ∧ Mem w w' [] := by
  have M := Lib.hid (Mem.start w)
  have S1 := Lib.hid (Fld.size hF.toLen)
  have O1 := Lib.hid (Cs.one c)
  have hr1 := chRes_len (F := F) (p := p) (c := c) (b := b)
  have IM := Lib.hid (fun w => impl_CheapestNets_any F hF p hp c hcc b w)
  have SP := Lib.hid (fun w => spec_CheapestNets_any F hF p hp c hcc b w)
  obtain ⟨D0, hD0⟩ : ∃ D, D = chLeast F p c b := ⟨_, rfl⟩
  obtain ⟨D1, hD1⟩ : ∃ D, D = chCode F p c b := ⟨_, rfl⟩
  obtain ⟨R, hR⟩ : ∃ R, R = chRes F p c b := ⟨_, rfl⟩
  rw [← hD0] at IM SP
  rw [← hD1] at IM SP
  rw [← hR] at IM SP
  rw [← hR] at hr1
  have hr : R.length ≤ 1048576 := by omega
  have hk2 : ¬ (1 + 4 * (R.length : Int) < 0) := by omega
  clear hR hr1 hD0 hD1
  go_enter Try.func3, Try.ntmps3
  go_wp2_with (first
    | ((with_reducible refine gate_dst (N := 4) rfl ?_); go_must (refine M.out.ev_new rfl (by first | (go_simp; done) | (go_simp; rfl)) ?_); intro g4 w4 m; simp only [List.cons_append, List.nil_append] at m; have M := Lib.hid m; clear m)
    | ((with_reducible refine gate_dst (N := 5) rfl ?_); go_must (refine M.out.ev_new rfl (by first | (go_simp; done) | (go_simp; rfl)) ?_); intro g5 w5 m; simp only [List.cons_append, List.nil_append] at m; have M := Lib.hid m; clear m)
    | ((with_reducible refine gate_dst (N := 6) rfl ?_); go_must (refine M.out.ev_new rfl (by first | (go_simp; done) | (go_simp; rfl)) ?_); intro g6 w6 m; simp only [List.cons_append, List.nil_append] at m; have M := Lib.hid m; clear m)
    | ((with_reducible refine gate_dst (N := 21) rfl ?_); go_must (refine M.out.ev_ldw 0 _ _ rfl rfl rfl Try.underlying27 rfl (by first | exact sz27 | (rw [S1.out]; exact sz27) | (rw [S2.out]; exact sz27) | (rw [S3.out]; exact sz27)) rfl ?_))
    | ((with_reducible refine gate_dst (N := 23) rfl ?_); go_must (refine M.out.ev_ldw 1 _ _ rfl rfl rfl Try.underlying29 rfl (by first | exact sz29 | (rw [S1.out]; exact sz29) | (rw [S2.out]; exact sz29) | (rw [S3.out]; exact sz29)) rfl ?_))
    | ((with_reducible refine gate_dst (N := 25) rfl ?_); go_must (refine M.out.ev_ldw 2 _ _ rfl rfl rfl Try.underlying31 rfl (by first | exact sz31 | (rw [S1.out]; exact sz31) | (rw [S2.out]; exact sz31) | (rw [S3.out]; exact sz31)) rfl ?_))
    | ((with_reducible refine gate_dst (N := 33) rfl ?_); go_must (refine M.out.ev_ldw 0 _ _ rfl rfl rfl Try.underlying27 rfl (by first | exact sz27 | (rw [S1.out]; exact sz27) | (rw [S2.out]; exact sz27) | (rw [S3.out]; exact sz27)) rfl ?_))
    | ((with_reducible refine gate_dst (N := 35) rfl ?_); go_must (refine M.out.ev_ldw 1 _ _ rfl rfl rfl Try.underlying29 rfl (by first | exact sz29 | (rw [S1.out]; exact sz29) | (rw [S2.out]; exact sz29) | (rw [S3.out]; exact sz29)) rfl ?_))
    | ((with_reducible refine gate_dst (N := 37) rfl ?_); go_must (refine M.out.ev_ldw 2 _ _ rfl rfl rfl Try.underlying31 rfl (by first | exact sz31 | (rw [S1.out]; exact sz31) | (rw [S2.out]; exact sz31) | (rw [S3.out]; exact sz31)) rfl ?_))
    | ((with_reducible refine gate_dst (N := 70) rfl ?_); go_must (refine M.out.ev_ldw 0 _ _ rfl rfl rfl Try.underlying27 rfl (by first | exact sz27 | (rw [S1.out]; exact sz27) | (rw [S2.out]; exact sz27) | (rw [S3.out]; exact sz27)) rfl ?_))
    | ((with_reducible refine gate_dst (N := 72) rfl ?_); go_must (refine M.out.ev_ldw 1 _ _ rfl rfl rfl Try.underlying29 rfl (by first | exact sz29 | (rw [S1.out]; exact sz29) | (rw [S2.out]; exact sz29) | (rw [S3.out]; exact sz29)) rfl ?_))
    | ((with_reducible refine gate_dst (N := 74) rfl ?_); go_must (refine M.out.ev_ldw 2 _ _ rfl rfl rfl Try.underlying31 rfl (by first | exact sz31 | (rw [S1.out]; exact sz31) | (rw [S2.out]; exact sz31) | (rw [S3.out]; exact sz31)) rfl ?_))
    | (go_at_call 6; go_must (refine (toField_any F hF.toLen _).mono ?_); rintro e w_ ⟨rfl, hB_⟩; have M := Lib.hid (M.out.kept hB_); clear hB_)
    | (go_at_call 7; go_must (refine (toPrices_any p _).mono ?_); rintro e w_ ⟨rfl, N_⟩; have m := M.out.join N_; clear N_; simp only [List.cons_append, List.nil_append, List.append_nil] at m; have M := Lib.hid m; clear m)
    | (go_at_call 8; go_must (refine (toCells_any _ _).mono ?_); rintro e w_ ⟨rfl, hB_⟩; have M := Lib.hid (M.out.kept hB_); clear hB_)
    | (go_at_call 10; go_must (first | (refine Calls.mono (calls_args (by with_reducible rfl) (eqNetS_any _ _ _ _ R R _ hr (M.out.slof 4 rfl) (M.out.slof 3 rfl))) ?_) | (refine Calls.mono (calls_args (by with_reducible rfl) (eqNetS_any _ _ _ _ R R _ hr (M.out.slof 5 rfl) (M.out.slof 3 rfl))) ?_)); rintro e w_ ⟨rfl, N_⟩; have m := M.out.join N_; clear N_; simp only [List.cons_append, List.nil_append, List.append_nil] at m; have M := Lib.hid m; clear m; rw [decide_eq_true rfl])
    | (go_at_call 11; go_must (first | (refine Calls.mono (calls_args (by with_reducible rfl) (markNet_any 4 M.out _ _ R rfl hr)) ?_)); rintro e w_ ⟨rfl, m⟩; simp only [List.set_cons_succ, List.set_cons_zero] at m; have M := Lib.hid m; clear m)
    | (go_at_call 12; go_must (refine (heldNet_any _ _ R.length hr _ (M.out.slof 4 rfl)).mono ?_); rintro e w_ ⟨rfl, rfl⟩)
    )
  refine region_anyH (fun w' => Mem w w' [.blk g4 27 F.cells, .blk g5 29 p.vals.toArray, .blk g6 31 c.cells]) (by kernel_rfl) ?_
  have M9 := M.out.drew
  clear M
  apply merge2
  case hA =>
    intro REST0
    have M := Lib.hid M9
    apply takeH (i := 0) 21 rfl (by kernel_rfl) (by kernel_rfl) (by kernel_rfl) (fun _ _ _ h => h) rfl (by first | exact M.out | exact M.out.take 3)
    case' hy => exact yldw _ _ rfl rfl Try.underlying27 rfl (by first | exact sz27 | (rw [S1.out]; exact sz27) | (rw [S2.out]; exact sz27) | (rw [S3.out]; exact sz27)) rfl (fun w' hS => hS.blk 0 rfl)
    try simp only [Act.put, List.getElem_toArray, List.getElem_cons_succ, List.getElem_cons_zero, List.setIfInBounds_toArray, List.set_cons_succ, List.set_cons_zero]
    apply takeH (i := 2) 23 rfl (by kernel_rfl) (by kernel_rfl) (by kernel_rfl) (fun _ _ _ h => h) rfl (by first | exact M.out | exact M.out.take 3)
    case' hy => exact yldw _ _ rfl rfl Try.underlying29 rfl (by first | exact sz29 | (rw [S1.out]; exact sz29) | (rw [S2.out]; exact sz29) | (rw [S3.out]; exact sz29)) rfl (fun w' hS => hS.blk 1 rfl)
    try simp only [Act.put, List.getElem_toArray, List.getElem_cons_succ, List.getElem_cons_zero, List.setIfInBounds_toArray, List.set_cons_succ, List.set_cons_zero]
    apply takeH (i := 4) 25 rfl (by kernel_rfl) (by kernel_rfl) (by kernel_rfl) (fun _ _ _ h => h) rfl (by first | exact M.out | exact M.out.take 3)
    case' hy => exact yldw _ _ rfl rfl Try.underlying31 rfl (by first | exact sz31 | (rw [S1.out]; exact sz31) | (rw [S2.out]; exact sz31) | (rw [S3.out]; exact sz31)) rfl (fun w' hS => hS.blk 2 rfl)
    try simp only [Act.put, List.getElem_toArray, List.getElem_cons_succ, List.getElem_cons_zero, List.setIfInBounds_toArray, List.set_cons_succ, List.set_cons_zero]
    apply takeH (i := 6) 27 rfl (by kernel_rfl) (by kernel_rfl) (by kernel_rfl) (fun _ _ _ h => h) rfl (by first | exact M.out | exact M.out.take 3)
    case' hy =>
      refine Or.inl ⟨by first | rfl | (go_simp; done), ?_⟩
      intro w hS
      clear hS
      go_simp
      try with_reducible rfl
    try simp only [Act.put, List.getElem_toArray, List.getElem_cons_succ, List.getElem_cons_zero, List.setIfInBounds_toArray, List.set_cons_succ, List.set_cons_zero]
    refine any1H 1 (by kernel_rfl) rfl (fun K hK => ?_)
    go_wp2_with (first | (go_at_call 6; go_must (refine (toField_any F hF.toLen _).mono ?_); rintro e w_ ⟨rfl, hB_⟩; have M := Lib.hid (M.out.kept hB_); clear hB_))
    refine onward_normal (hK _ _ ⟨(by first | exact M.out | exact M.out.take 3), ?_⟩)
    clear hK K
    try simp only [Act.put, List.getElem_toArray, List.getElem_cons_succ, List.getElem_cons_zero, List.setIfInBounds_toArray, List.set_cons_succ, List.set_cons_zero]
    refine any1H 3 (by kernel_rfl) rfl (fun K hK => ?_)
    go_wp2_with (first | (go_at_call 7; go_must (refine (toPrices_any p _).mono ?_); rintro e w_ ⟨rfl, N_⟩; have m := M.out.join N_; clear N_; simp only [List.cons_append, List.nil_append, List.append_nil] at m; have M := Lib.hid m; clear m))
    refine onward_normal (hK _ _ ⟨(by first | exact M.out | exact M.out.take 3), ?_⟩)
    clear hK K
    try simp only [Act.put, List.getElem_toArray, List.getElem_cons_succ, List.getElem_cons_zero, List.setIfInBounds_toArray, List.set_cons_succ, List.set_cons_zero]
    refine any1H 5 (by kernel_rfl) rfl (fun K hK => ?_)
    go_wp2_with (first | (go_at_call 8; go_must (refine (toCells_any _ _).mono ?_); rintro e w_ ⟨rfl, hB_⟩; have M := Lib.hid (M.out.kept hB_); clear hB_))
    refine onward_normal (hK _ _ ⟨(by first | exact M.out | exact M.out.take 3), ?_⟩)
    clear hK K
    try simp only [Act.put, List.getElem_toArray, List.getElem_cons_succ, List.getElem_cons_zero, List.setIfInBounds_toArray, List.set_cons_succ, List.set_cons_zero]
    refine any1H 7 (by kernel_rfl) rfl (fun K hK => ?_)
    go_wp2_with (first | (go_at_call 5; go_must (refine (SP.out _).mono ?_); rintro e w_ ⟨A28, c28, rfl, hc28, N_⟩; have m := M.out.join N_; clear N_; simp only [List.cons_append, List.nil_append, List.append_nil] at m; have M := Lib.hid m; clear m))
    refine onward_normal (hK _ _ ⟨(by first | exact M.out | exact M.out.take 3), ?_⟩)
    clear hK K
    try simp only [Act.put, List.getElem_toArray, List.getElem_cons_succ, List.getElem_cons_zero, List.setIfInBounds_toArray, List.set_cons_succ, List.set_cons_zero]
    apply takeH (i := 8) 20 rfl (by kernel_rfl) (by kernel_rfl) (by kernel_rfl) (fun _ _ _ h => h) rfl (by first | exact M.out | exact M.out.take 3)
    case' hy =>
      refine Or.inl ⟨by first | rfl | (go_simp; done), ?_⟩
      intro w hS
      clear hS
      go_simp
      try with_reducible rfl
    try simp only [Act.put, List.getElem_toArray, List.getElem_cons_succ, List.getElem_cons_zero, List.setIfInBounds_toArray, List.set_cons_succ, List.set_cons_zero]
    apply takeH (i := 9) 29 rfl (by kernel_rfl) (by kernel_rfl) (by kernel_rfl) (fun _ _ _ h => h) rfl (by first | exact M.out | exact M.out.take 3)
    case' hy =>
      refine Or.inl ⟨by first | rfl | (go_simp; done), ?_⟩
      intro w hS
      clear hS
      go_simp
      try with_reducible rfl
    try simp only [Act.put, List.getElem_toArray, List.getElem_cons_succ, List.getElem_cons_zero, List.setIfInBounds_toArray, List.set_cons_succ, List.set_cons_zero]
    apply takeH (i := 10) 30 rfl (by kernel_rfl) (by kernel_rfl) (by kernel_rfl) (fun _ _ _ h => h) rfl (by first | exact M.out | exact M.out.take 3)
    case' hy =>
      refine Or.inl ⟨by first | rfl | (go_simp; done), ?_⟩
      intro w hS
      clear hS
      go_simp
      try with_reducible rfl
    try simp only [Act.put, List.getElem_toArray, List.getElem_cons_succ, List.getElem_cons_zero, List.setIfInBounds_toArray, List.set_cons_succ, List.set_cons_zero]
    apply takeH (i := 11) 31 rfl (by kernel_rfl) (by kernel_rfl) (by kernel_rfl) (fun _ _ _ h => h) rfl (by first | exact M.out | exact M.out.take 3)
    case' hy =>
      refine Or.inl ⟨by first | rfl | (go_simp; done), ?_⟩
      intro w hS
      clear hS
      go_simp
      try with_reducible rfl
    try simp only [Act.put, List.getElem_toArray, List.getElem_cons_succ, List.getElem_cons_zero, List.setIfInBounds_toArray, List.set_cons_succ, List.set_cons_zero]
    apply takeH (i := 12) 9 rfl (by kernel_rfl) (by kernel_rfl) (by kernel_rfl) (fun _ _ _ h => h) rfl (by first | exact M.out | exact M.out.take 3)
    case' hy =>
      refine Or.inl ⟨by first | rfl | (go_simp; done), ?_⟩
      intro w hS
      clear hS
      go_simp
      try with_reducible rfl
    try simp only [Act.put, List.getElem_toArray, List.getElem_cons_succ, List.getElem_cons_zero, List.setIfInBounds_toArray, List.set_cons_succ, List.set_cons_zero]
    apply takeH (i := 13) 10 rfl (by kernel_rfl) (by kernel_rfl) (by kernel_rfl) (fun _ _ _ h => h) rfl (by first | exact M.out | exact M.out.take 3)
    case' hy =>
      refine Or.inl ⟨by first | rfl | (go_simp; done), ?_⟩
      intro w hS
      clear hS
      go_simp
      try with_reducible rfl
    try simp only [Act.put, List.getElem_toArray, List.getElem_cons_succ, List.getElem_cons_zero, List.setIfInBounds_toArray, List.set_cons_succ, List.set_cons_zero]
    apply takeH (i := 14) 11 rfl (by kernel_rfl) (by kernel_rfl) (by kernel_rfl) (fun _ _ _ h => h) rfl (by first | exact M.out | exact M.out.take 3)
    case' hy =>
      refine Or.inl ⟨by first | rfl | (go_simp; done), ?_⟩
      intro w hS
      clear hS
      go_simp
      try with_reducible rfl
    try simp only [Act.put, List.getElem_toArray, List.getElem_cons_succ, List.getElem_cons_zero, List.setIfInBounds_toArray, List.set_cons_succ, List.set_cons_zero]
    exact REST0 A28 c28 w_ M.out
  intro A28 c28 w_ m
  have M := Lib.hid m
  clear m M9
  refine wpAnyH_done (by kernel_rfl) ?_ _
  go_wp2_with (first
    | ((with_reducible refine gate_dst (N := 4) rfl ?_); go_must (refine M.out.ev_new rfl (by first | (go_simp; done) | (go_simp; rfl)) ?_); intro g4 w4 m; simp only [List.cons_append, List.nil_append] at m; have M := Lib.hid m; clear m)
    | ((with_reducible refine gate_dst (N := 5) rfl ?_); go_must (refine M.out.ev_new rfl (by first | (go_simp; done) | (go_simp; rfl)) ?_); intro g5 w5 m; simp only [List.cons_append, List.nil_append] at m; have M := Lib.hid m; clear m)
    | ((with_reducible refine gate_dst (N := 6) rfl ?_); go_must (refine M.out.ev_new rfl (by first | (go_simp; done) | (go_simp; rfl)) ?_); intro g6 w6 m; simp only [List.cons_append, List.nil_append] at m; have M := Lib.hid m; clear m)
    | ((with_reducible refine gate_dst (N := 21) rfl ?_); go_must (refine M.out.ev_ldw 0 _ _ rfl rfl rfl Try.underlying27 rfl (by first | exact sz27 | (rw [S1.out]; exact sz27) | (rw [S2.out]; exact sz27) | (rw [S3.out]; exact sz27)) rfl ?_))
    | ((with_reducible refine gate_dst (N := 23) rfl ?_); go_must (refine M.out.ev_ldw 1 _ _ rfl rfl rfl Try.underlying29 rfl (by first | exact sz29 | (rw [S1.out]; exact sz29) | (rw [S2.out]; exact sz29) | (rw [S3.out]; exact sz29)) rfl ?_))
    | ((with_reducible refine gate_dst (N := 25) rfl ?_); go_must (refine M.out.ev_ldw 2 _ _ rfl rfl rfl Try.underlying31 rfl (by first | exact sz31 | (rw [S1.out]; exact sz31) | (rw [S2.out]; exact sz31) | (rw [S3.out]; exact sz31)) rfl ?_))
    | ((with_reducible refine gate_dst (N := 33) rfl ?_); go_must (refine M.out.ev_ldw 0 _ _ rfl rfl rfl Try.underlying27 rfl (by first | exact sz27 | (rw [S1.out]; exact sz27) | (rw [S2.out]; exact sz27) | (rw [S3.out]; exact sz27)) rfl ?_))
    | ((with_reducible refine gate_dst (N := 35) rfl ?_); go_must (refine M.out.ev_ldw 1 _ _ rfl rfl rfl Try.underlying29 rfl (by first | exact sz29 | (rw [S1.out]; exact sz29) | (rw [S2.out]; exact sz29) | (rw [S3.out]; exact sz29)) rfl ?_))
    | ((with_reducible refine gate_dst (N := 37) rfl ?_); go_must (refine M.out.ev_ldw 2 _ _ rfl rfl rfl Try.underlying31 rfl (by first | exact sz31 | (rw [S1.out]; exact sz31) | (rw [S2.out]; exact sz31) | (rw [S3.out]; exact sz31)) rfl ?_))
    | ((with_reducible refine gate_dst (N := 70) rfl ?_); go_must (refine M.out.ev_ldw 0 _ _ rfl rfl rfl Try.underlying27 rfl (by first | exact sz27 | (rw [S1.out]; exact sz27) | (rw [S2.out]; exact sz27) | (rw [S3.out]; exact sz27)) rfl ?_))
    | ((with_reducible refine gate_dst (N := 72) rfl ?_); go_must (refine M.out.ev_ldw 1 _ _ rfl rfl rfl Try.underlying29 rfl (by first | exact sz29 | (rw [S1.out]; exact sz29) | (rw [S2.out]; exact sz29) | (rw [S3.out]; exact sz29)) rfl ?_))
    | ((with_reducible refine gate_dst (N := 74) rfl ?_); go_must (refine M.out.ev_ldw 2 _ _ rfl rfl rfl Try.underlying31 rfl (by first | exact sz31 | (rw [S1.out]; exact sz31) | (rw [S2.out]; exact sz31) | (rw [S3.out]; exact sz31)) rfl ?_))
    | (go_at_call 6; go_must (refine (toField_any F hF.toLen _).mono ?_); rintro e w_ ⟨rfl, hB_⟩; have M := Lib.hid (M.out.kept hB_); clear hB_)
    | (go_at_call 7; go_must (refine (toPrices_any p _).mono ?_); rintro e w_ ⟨rfl, N_⟩; have m := M.out.join N_; clear N_; simp only [List.cons_append, List.nil_append, List.append_nil] at m; have M := Lib.hid m; clear m)
    | (go_at_call 8; go_must (refine (toCells_any _ _).mono ?_); rintro e w_ ⟨rfl, hB_⟩; have M := Lib.hid (M.out.kept hB_); clear hB_)
    | (go_at_call 10; go_must (first | (refine Calls.mono (calls_args (by with_reducible rfl) (eqNetS_any _ _ _ _ R R _ hr (M.out.slof 4 rfl) (M.out.slof 3 rfl))) ?_) | (refine Calls.mono (calls_args (by with_reducible rfl) (eqNetS_any _ _ _ _ R R _ hr (M.out.slof 5 rfl) (M.out.slof 3 rfl))) ?_)); rintro e w_ ⟨rfl, N_⟩; have m := M.out.join N_; clear N_; simp only [List.cons_append, List.nil_append, List.append_nil] at m; have M := Lib.hid m; clear m; rw [decide_eq_true rfl])
    | (go_at_call 11; go_must (first | (refine Calls.mono (calls_args (by with_reducible rfl) (markNet_any 4 M.out _ _ R rfl hr)) ?_)); rintro e w_ ⟨rfl, m⟩; simp only [List.set_cons_succ, List.set_cons_zero] at m; have M := Lib.hid m; clear m)
    | (go_at_call 12; go_must (refine (heldNet_any _ _ R.length hr _ (M.out.slof 4 rfl)).mono ?_); rintro e w_ ⟨rfl, rfl⟩)
    )
  refine region_anyH (fun w' => Mem w w' [.blk g4 27 F.cells, .blk g5 29 p.vals.toArray, .blk g6 31 c.cells]) (by kernel_rfl) ?_
  have M9 := M.out.drew
  clear M
  apply merge2
  case hA =>
    intro REST0
    have M := Lib.hid M9
    apply takeH (i := 0) 33 rfl (by kernel_rfl) (by kernel_rfl) (by kernel_rfl) (fun _ _ _ h => h) rfl (by first | exact M.out | exact M.out.take 3)
    case' hy => exact yldw _ _ rfl rfl Try.underlying27 rfl (by first | exact sz27 | (rw [S1.out]; exact sz27) | (rw [S2.out]; exact sz27) | (rw [S3.out]; exact sz27)) rfl (fun w' hS => hS.blk 0 rfl)
    try simp only [Act.put, List.getElem_toArray, List.getElem_cons_succ, List.getElem_cons_zero, List.setIfInBounds_toArray, List.set_cons_succ, List.set_cons_zero]
    apply takeH (i := 2) 35 rfl (by kernel_rfl) (by kernel_rfl) (by kernel_rfl) (fun _ _ _ h => h) rfl (by first | exact M.out | exact M.out.take 3)
    case' hy => exact yldw _ _ rfl rfl Try.underlying29 rfl (by first | exact sz29 | (rw [S1.out]; exact sz29) | (rw [S2.out]; exact sz29) | (rw [S3.out]; exact sz29)) rfl (fun w' hS => hS.blk 1 rfl)
    try simp only [Act.put, List.getElem_toArray, List.getElem_cons_succ, List.getElem_cons_zero, List.setIfInBounds_toArray, List.set_cons_succ, List.set_cons_zero]
    apply takeH (i := 4) 37 rfl (by kernel_rfl) (by kernel_rfl) (by kernel_rfl) (fun _ _ _ h => h) rfl (by first | exact M.out | exact M.out.take 3)
    case' hy => exact yldw _ _ rfl rfl Try.underlying31 rfl (by first | exact sz31 | (rw [S1.out]; exact sz31) | (rw [S2.out]; exact sz31) | (rw [S3.out]; exact sz31)) rfl (fun w' hS => hS.blk 2 rfl)
    try simp only [Act.put, List.getElem_toArray, List.getElem_cons_succ, List.getElem_cons_zero, List.setIfInBounds_toArray, List.set_cons_succ, List.set_cons_zero]
    apply takeH (i := 6) 39 rfl (by kernel_rfl) (by kernel_rfl) (by kernel_rfl) (fun _ _ _ h => h) rfl (by first | exact M.out | exact M.out.take 3)
    case' hy =>
      refine Or.inl ⟨by first | rfl | (go_simp; done), ?_⟩
      intro w hS
      clear hS
      go_simp
      try with_reducible rfl
    try simp only [Act.put, List.getElem_toArray, List.getElem_cons_succ, List.getElem_cons_zero, List.setIfInBounds_toArray, List.set_cons_succ, List.set_cons_zero]
    refine any1H 1 (by kernel_rfl) rfl (fun K hK => ?_)
    go_wp2_with (first | (go_at_call 6; go_must (refine (toField_any F hF.toLen _).mono ?_); rintro e w_ ⟨rfl, hB_⟩; have M := Lib.hid (M.out.kept hB_); clear hB_))
    refine onward_normal (hK _ _ ⟨(by first | exact M.out | exact M.out.take 3), ?_⟩)
    clear hK K
    try simp only [Act.put, List.getElem_toArray, List.getElem_cons_succ, List.getElem_cons_zero, List.setIfInBounds_toArray, List.set_cons_succ, List.set_cons_zero]
    refine any1H 3 (by kernel_rfl) rfl (fun K hK => ?_)
    go_wp2_with (first | (go_at_call 7; go_must (refine (toPrices_any p _).mono ?_); rintro e w_ ⟨rfl, N_⟩; have m := M.out.join N_; clear N_; simp only [List.cons_append, List.nil_append, List.append_nil] at m; have M := Lib.hid m; clear m))
    refine onward_normal (hK _ _ ⟨(by first | exact M.out | exact M.out.take 3), ?_⟩)
    clear hK K
    try simp only [Act.put, List.getElem_toArray, List.getElem_cons_succ, List.getElem_cons_zero, List.setIfInBounds_toArray, List.set_cons_succ, List.set_cons_zero]
    refine any1H 5 (by kernel_rfl) rfl (fun K hK => ?_)
    go_wp2_with (first | (go_at_call 8; go_must (refine (toCells_any _ _).mono ?_); rintro e w_ ⟨rfl, hB_⟩; have M := Lib.hid (M.out.kept hB_); clear hB_))
    refine onward_normal (hK _ _ ⟨(by first | exact M.out | exact M.out.take 3), ?_⟩)
    clear hK K
    try simp only [Act.put, List.getElem_toArray, List.getElem_cons_succ, List.getElem_cons_zero, List.setIfInBounds_toArray, List.set_cons_succ, List.set_cons_zero]
    refine any1H 7 (by kernel_rfl) rfl (fun K hK => ?_)
    go_wp2_with (first | (go_at_call 9; go_must (refine (IM.out _).mono ?_); rintro e w_ ⟨A40, c40, rfl, hc40, N_⟩; have m := M.out.join N_; clear N_; simp only [List.cons_append, List.nil_append, List.append_nil] at m; have M := Lib.hid m; clear m))
    refine onward_normal (hK _ _ ⟨(by first | exact M.out | exact M.out.take 3), ?_⟩)
    clear hK K
    try simp only [Act.put, List.getElem_toArray, List.getElem_cons_succ, List.getElem_cons_zero, List.setIfInBounds_toArray, List.set_cons_succ, List.set_cons_zero]
    apply takeH (i := 8) 32 rfl (by kernel_rfl) (by kernel_rfl) (by kernel_rfl) (fun _ _ _ h => h) rfl (by first | exact M.out | exact M.out.take 3)
    case' hy =>
      refine Or.inl ⟨by first | rfl | (go_simp; done), ?_⟩
      intro w hS
      clear hS
      go_simp
      try with_reducible rfl
    try simp only [Act.put, List.getElem_toArray, List.getElem_cons_succ, List.getElem_cons_zero, List.setIfInBounds_toArray, List.set_cons_succ, List.set_cons_zero]
    apply takeH (i := 9) 41 rfl (by kernel_rfl) (by kernel_rfl) (by kernel_rfl) (fun _ _ _ h => h) rfl (by first | exact M.out | exact M.out.take 3)
    case' hy =>
      refine Or.inl ⟨by first | rfl | (go_simp; done), ?_⟩
      intro w hS
      clear hS
      go_simp
      try with_reducible rfl
    try simp only [Act.put, List.getElem_toArray, List.getElem_cons_succ, List.getElem_cons_zero, List.setIfInBounds_toArray, List.set_cons_succ, List.set_cons_zero]
    apply takeH (i := 10) 42 rfl (by kernel_rfl) (by kernel_rfl) (by kernel_rfl) (fun _ _ _ h => h) rfl (by first | exact M.out | exact M.out.take 3)
    case' hy =>
      refine Or.inl ⟨by first | rfl | (go_simp; done), ?_⟩
      intro w hS
      clear hS
      go_simp
      try with_reducible rfl
    try simp only [Act.put, List.getElem_toArray, List.getElem_cons_succ, List.getElem_cons_zero, List.setIfInBounds_toArray, List.set_cons_succ, List.set_cons_zero]
    apply takeH (i := 11) 43 rfl (by kernel_rfl) (by kernel_rfl) (by kernel_rfl) (fun _ _ _ h => h) rfl (by first | exact M.out | exact M.out.take 3)
    case' hy =>
      refine Or.inl ⟨by first | rfl | (go_simp; done), ?_⟩
      intro w hS
      clear hS
      go_simp
      try with_reducible rfl
    try simp only [Act.put, List.getElem_toArray, List.getElem_cons_succ, List.getElem_cons_zero, List.setIfInBounds_toArray, List.set_cons_succ, List.set_cons_zero]
    apply takeH (i := 12) 12 rfl (by kernel_rfl) (by kernel_rfl) (by kernel_rfl) (fun _ _ _ h => h) rfl (by first | exact M.out | exact M.out.take 3)
    case' hy =>
      refine Or.inl ⟨by first | rfl | (go_simp; done), ?_⟩
      intro w hS
      clear hS
      go_simp
      try with_reducible rfl
    try simp only [Act.put, List.getElem_toArray, List.getElem_cons_succ, List.getElem_cons_zero, List.setIfInBounds_toArray, List.set_cons_succ, List.set_cons_zero]
    apply takeH (i := 13) 13 rfl (by kernel_rfl) (by kernel_rfl) (by kernel_rfl) (fun _ _ _ h => h) rfl (by first | exact M.out | exact M.out.take 3)
    case' hy =>
      refine Or.inl ⟨by first | rfl | (go_simp; done), ?_⟩
      intro w hS
      clear hS
      go_simp
      try with_reducible rfl
    try simp only [Act.put, List.getElem_toArray, List.getElem_cons_succ, List.getElem_cons_zero, List.setIfInBounds_toArray, List.set_cons_succ, List.set_cons_zero]
    apply takeH (i := 14) 14 rfl (by kernel_rfl) (by kernel_rfl) (by kernel_rfl) (fun _ _ _ h => h) rfl (by first | exact M.out | exact M.out.take 3)
    case' hy =>
      refine Or.inl ⟨by first | rfl | (go_simp; done), ?_⟩
      intro w hS
      clear hS
      go_simp
      try with_reducible rfl
    try simp only [Act.put, List.getElem_toArray, List.getElem_cons_succ, List.getElem_cons_zero, List.setIfInBounds_toArray, List.set_cons_succ, List.set_cons_zero]
    exact REST0 A40 c40 w_ M.out
  intro A40 c40 w_ m
  have M := Lib.hid m
  clear m M9
  refine wpAnyH_done (by kernel_rfl) ?_ _
  go_wp2_with (first
    | ((with_reducible refine gate_dst (N := 4) rfl ?_); go_must (refine M.out.ev_new rfl (by first | (go_simp; done) | (go_simp; rfl)) ?_); intro g4 w4 m; simp only [List.cons_append, List.nil_append] at m; have M := Lib.hid m; clear m)
    | ((with_reducible refine gate_dst (N := 5) rfl ?_); go_must (refine M.out.ev_new rfl (by first | (go_simp; done) | (go_simp; rfl)) ?_); intro g5 w5 m; simp only [List.cons_append, List.nil_append] at m; have M := Lib.hid m; clear m)
    | ((with_reducible refine gate_dst (N := 6) rfl ?_); go_must (refine M.out.ev_new rfl (by first | (go_simp; done) | (go_simp; rfl)) ?_); intro g6 w6 m; simp only [List.cons_append, List.nil_append] at m; have M := Lib.hid m; clear m)
    | ((with_reducible refine gate_dst (N := 21) rfl ?_); go_must (refine M.out.ev_ldw 0 _ _ rfl rfl rfl Try.underlying27 rfl (by first | exact sz27 | (rw [S1.out]; exact sz27) | (rw [S2.out]; exact sz27) | (rw [S3.out]; exact sz27)) rfl ?_))
    | ((with_reducible refine gate_dst (N := 23) rfl ?_); go_must (refine M.out.ev_ldw 1 _ _ rfl rfl rfl Try.underlying29 rfl (by first | exact sz29 | (rw [S1.out]; exact sz29) | (rw [S2.out]; exact sz29) | (rw [S3.out]; exact sz29)) rfl ?_))
    | ((with_reducible refine gate_dst (N := 25) rfl ?_); go_must (refine M.out.ev_ldw 2 _ _ rfl rfl rfl Try.underlying31 rfl (by first | exact sz31 | (rw [S1.out]; exact sz31) | (rw [S2.out]; exact sz31) | (rw [S3.out]; exact sz31)) rfl ?_))
    | ((with_reducible refine gate_dst (N := 33) rfl ?_); go_must (refine M.out.ev_ldw 0 _ _ rfl rfl rfl Try.underlying27 rfl (by first | exact sz27 | (rw [S1.out]; exact sz27) | (rw [S2.out]; exact sz27) | (rw [S3.out]; exact sz27)) rfl ?_))
    | ((with_reducible refine gate_dst (N := 35) rfl ?_); go_must (refine M.out.ev_ldw 1 _ _ rfl rfl rfl Try.underlying29 rfl (by first | exact sz29 | (rw [S1.out]; exact sz29) | (rw [S2.out]; exact sz29) | (rw [S3.out]; exact sz29)) rfl ?_))
    | ((with_reducible refine gate_dst (N := 37) rfl ?_); go_must (refine M.out.ev_ldw 2 _ _ rfl rfl rfl Try.underlying31 rfl (by first | exact sz31 | (rw [S1.out]; exact sz31) | (rw [S2.out]; exact sz31) | (rw [S3.out]; exact sz31)) rfl ?_))
    | ((with_reducible refine gate_dst (N := 70) rfl ?_); go_must (refine M.out.ev_ldw 0 _ _ rfl rfl rfl Try.underlying27 rfl (by first | exact sz27 | (rw [S1.out]; exact sz27) | (rw [S2.out]; exact sz27) | (rw [S3.out]; exact sz27)) rfl ?_))
    | ((with_reducible refine gate_dst (N := 72) rfl ?_); go_must (refine M.out.ev_ldw 1 _ _ rfl rfl rfl Try.underlying29 rfl (by first | exact sz29 | (rw [S1.out]; exact sz29) | (rw [S2.out]; exact sz29) | (rw [S3.out]; exact sz29)) rfl ?_))
    | ((with_reducible refine gate_dst (N := 74) rfl ?_); go_must (refine M.out.ev_ldw 2 _ _ rfl rfl rfl Try.underlying31 rfl (by first | exact sz31 | (rw [S1.out]; exact sz31) | (rw [S2.out]; exact sz31) | (rw [S3.out]; exact sz31)) rfl ?_))
    | (go_at_call 6; go_must (refine (toField_any F hF.toLen _).mono ?_); rintro e w_ ⟨rfl, hB_⟩; have M := Lib.hid (M.out.kept hB_); clear hB_)
    | (go_at_call 7; go_must (refine (toPrices_any p _).mono ?_); rintro e w_ ⟨rfl, N_⟩; have m := M.out.join N_; clear N_; simp only [List.cons_append, List.nil_append, List.append_nil] at m; have M := Lib.hid m; clear m)
    | (go_at_call 8; go_must (refine (toCells_any _ _).mono ?_); rintro e w_ ⟨rfl, hB_⟩; have M := Lib.hid (M.out.kept hB_); clear hB_)
    | (go_at_call 10; go_must (first | (refine Calls.mono (calls_args (by with_reducible rfl) (eqNetS_any _ _ _ _ R R _ hr (M.out.slof 4 rfl) (M.out.slof 3 rfl))) ?_) | (refine Calls.mono (calls_args (by with_reducible rfl) (eqNetS_any _ _ _ _ R R _ hr (M.out.slof 5 rfl) (M.out.slof 3 rfl))) ?_)); rintro e w_ ⟨rfl, N_⟩; have m := M.out.join N_; clear N_; simp only [List.cons_append, List.nil_append, List.append_nil] at m; have M := Lib.hid m; clear m; rw [decide_eq_true rfl])
    | (go_at_call 11; go_must (first | (refine Calls.mono (calls_args (by with_reducible rfl) (markNet_any 4 M.out _ _ R rfl hr)) ?_)); rintro e w_ ⟨rfl, m⟩; simp only [List.set_cons_succ, List.set_cons_zero] at m; have M := Lib.hid m; clear m)
    | (go_at_call 12; go_must (refine (heldNet_any _ _ R.length hr _ (M.out.slof 4 rfl)).mono ?_); rintro e w_ ⟨rfl, rfl⟩)
    )
  refine region_anyH (fun w' => Mem w w' [.blk g4 27 F.cells, .blk g5 29 p.vals.toArray, .blk g6 31 c.cells]) (by kernel_rfl) ?_
  have M9 := M.out.drew
  clear M
  apply merge2
  case hA =>
    intro REST0
    have M := Lib.hid M9
    apply takeH (i := 0) 70 rfl (by kernel_rfl) (by kernel_rfl) (by kernel_rfl) (fun _ _ _ h => h) rfl (by first | exact M.out | exact M.out.take 3)
    case' hy => exact yldw _ _ rfl rfl Try.underlying27 rfl (by first | exact sz27 | (rw [S1.out]; exact sz27) | (rw [S2.out]; exact sz27) | (rw [S3.out]; exact sz27)) rfl (fun w' hS => hS.blk 0 rfl)
    try simp only [Act.put, List.getElem_toArray, List.getElem_cons_succ, List.getElem_cons_zero, List.setIfInBounds_toArray, List.set_cons_succ, List.set_cons_zero]
    apply takeH (i := 2) 72 rfl (by kernel_rfl) (by kernel_rfl) (by kernel_rfl) (fun _ _ _ h => h) rfl (by first | exact M.out | exact M.out.take 3)
    case' hy => exact yldw _ _ rfl rfl Try.underlying29 rfl (by first | exact sz29 | (rw [S1.out]; exact sz29) | (rw [S2.out]; exact sz29) | (rw [S3.out]; exact sz29)) rfl (fun w' hS => hS.blk 1 rfl)
    try simp only [Act.put, List.getElem_toArray, List.getElem_cons_succ, List.getElem_cons_zero, List.setIfInBounds_toArray, List.set_cons_succ, List.set_cons_zero]
    apply takeH (i := 4) 74 rfl (by kernel_rfl) (by kernel_rfl) (by kernel_rfl) (fun _ _ _ h => h) rfl (by first | exact M.out | exact M.out.take 3)
    case' hy => exact yldw _ _ rfl rfl Try.underlying31 rfl (by first | exact sz31 | (rw [S1.out]; exact sz31) | (rw [S2.out]; exact sz31) | (rw [S3.out]; exact sz31)) rfl (fun w' hS => hS.blk 2 rfl)
    try simp only [Act.put, List.getElem_toArray, List.getElem_cons_succ, List.getElem_cons_zero, List.setIfInBounds_toArray, List.set_cons_succ, List.set_cons_zero]
    apply takeH (i := 6) 76 rfl (by kernel_rfl) (by kernel_rfl) (by kernel_rfl) (fun _ _ _ h => h) rfl (by first | exact M.out | exact M.out.take 3)
    case' hy =>
      refine Or.inl ⟨by first | rfl | (go_simp; done), ?_⟩
      intro w hS
      clear hS
      go_simp
      try with_reducible rfl
    try simp only [Act.put, List.getElem_toArray, List.getElem_cons_succ, List.getElem_cons_zero, List.setIfInBounds_toArray, List.set_cons_succ, List.set_cons_zero]
    refine any1H 1 (by kernel_rfl) rfl (fun K hK => ?_)
    go_wp2_with (first | (go_at_call 6; go_must (refine (toField_any F hF.toLen _).mono ?_); rintro e w_ ⟨rfl, hB_⟩; have M := Lib.hid (M.out.kept hB_); clear hB_))
    refine onward_normal (hK _ _ ⟨(by first | exact M.out | exact M.out.take 3), ?_⟩)
    clear hK K
    try simp only [Act.put, List.getElem_toArray, List.getElem_cons_succ, List.getElem_cons_zero, List.setIfInBounds_toArray, List.set_cons_succ, List.set_cons_zero]
    refine any1H 3 (by kernel_rfl) rfl (fun K hK => ?_)
    go_wp2_with (first | (go_at_call 7; go_must (refine (toPrices_any p _).mono ?_); rintro e w_ ⟨rfl, N_⟩; have m := M.out.join N_; clear N_; simp only [List.cons_append, List.nil_append, List.append_nil] at m; have M := Lib.hid m; clear m))
    refine onward_normal (hK _ _ ⟨(by first | exact M.out | exact M.out.take 3), ?_⟩)
    clear hK K
    try simp only [Act.put, List.getElem_toArray, List.getElem_cons_succ, List.getElem_cons_zero, List.setIfInBounds_toArray, List.set_cons_succ, List.set_cons_zero]
    refine any1H 5 (by kernel_rfl) rfl (fun K hK => ?_)
    go_wp2_with (first | (go_at_call 8; go_must (refine (toCells_any _ _).mono ?_); rintro e w_ ⟨rfl, hB_⟩; have M := Lib.hid (M.out.kept hB_); clear hB_))
    refine onward_normal (hK _ _ ⟨(by first | exact M.out | exact M.out.take 3), ?_⟩)
    clear hK K
    try simp only [Act.put, List.getElem_toArray, List.getElem_cons_succ, List.getElem_cons_zero, List.setIfInBounds_toArray, List.set_cons_succ, List.set_cons_zero]
    refine any1H 7 (by kernel_rfl) rfl (fun K hK => ?_)
    go_wp2_with (first | (go_at_call 9; go_must (refine (IM.out _).mono ?_); rintro e w_ ⟨A77, c77, rfl, hc77, N_⟩; have m := M.out.join N_; clear N_; simp only [List.cons_append, List.nil_append, List.append_nil] at m; have M := Lib.hid m; clear m))
    refine onward_normal (hK _ _ ⟨(by first | exact M.out | exact M.out.take 3), ?_⟩)
    clear hK K
    try simp only [Act.put, List.getElem_toArray, List.getElem_cons_succ, List.getElem_cons_zero, List.setIfInBounds_toArray, List.set_cons_succ, List.set_cons_zero]
    apply takeH (i := 8) 69 rfl (by kernel_rfl) (by kernel_rfl) (by kernel_rfl) (fun _ _ _ h => h) rfl (by first | exact M.out | exact M.out.take 3)
    case' hy =>
      refine Or.inl ⟨by first | rfl | (go_simp; done), ?_⟩
      intro w hS
      clear hS
      go_simp
      try with_reducible rfl
    try simp only [Act.put, List.getElem_toArray, List.getElem_cons_succ, List.getElem_cons_zero, List.setIfInBounds_toArray, List.set_cons_succ, List.set_cons_zero]
    apply takeH (i := 9) 78 rfl (by kernel_rfl) (by kernel_rfl) (by kernel_rfl) (fun _ _ _ h => h) rfl (by first | exact M.out | exact M.out.take 3)
    case' hy =>
      refine Or.inl ⟨by first | rfl | (go_simp; done), ?_⟩
      intro w hS
      clear hS
      go_simp
      try with_reducible rfl
    try simp only [Act.put, List.getElem_toArray, List.getElem_cons_succ, List.getElem_cons_zero, List.setIfInBounds_toArray, List.set_cons_succ, List.set_cons_zero]
    apply takeH (i := 10) 79 rfl (by kernel_rfl) (by kernel_rfl) (by kernel_rfl) (fun _ _ _ h => h) rfl (by first | exact M.out | exact M.out.take 3)
    case' hy =>
      refine Or.inl ⟨by first | rfl | (go_simp; done), ?_⟩
      intro w hS
      clear hS
      go_simp
      try with_reducible rfl
    try simp only [Act.put, List.getElem_toArray, List.getElem_cons_succ, List.getElem_cons_zero, List.setIfInBounds_toArray, List.set_cons_succ, List.set_cons_zero]
    apply takeH (i := 11) 80 rfl (by kernel_rfl) (by kernel_rfl) (by kernel_rfl) (fun _ _ _ h => h) rfl (by first | exact M.out | exact M.out.take 3)
    case' hy =>
      refine Or.inl ⟨by first | rfl | (go_simp; done), ?_⟩
      intro w hS
      clear hS
      go_simp
      try with_reducible rfl
    try simp only [Act.put, List.getElem_toArray, List.getElem_cons_succ, List.getElem_cons_zero, List.setIfInBounds_toArray, List.set_cons_succ, List.set_cons_zero]
    apply takeH (i := 12) 17 rfl (by kernel_rfl) (by kernel_rfl) (by kernel_rfl) (fun _ _ _ h => h) rfl (by first | exact M.out | exact M.out.take 3)
    case' hy =>
      refine Or.inl ⟨by first | rfl | (go_simp; done), ?_⟩
      intro w hS
      clear hS
      go_simp
      try with_reducible rfl
    try simp only [Act.put, List.getElem_toArray, List.getElem_cons_succ, List.getElem_cons_zero, List.setIfInBounds_toArray, List.set_cons_succ, List.set_cons_zero]
    apply takeH (i := 13) 18 rfl (by kernel_rfl) (by kernel_rfl) (by kernel_rfl) (fun _ _ _ h => h) rfl (by first | exact M.out | exact M.out.take 3)
    case' hy =>
      refine Or.inl ⟨by first | rfl | (go_simp; done), ?_⟩
      intro w hS
      clear hS
      go_simp
      try with_reducible rfl
    try simp only [Act.put, List.getElem_toArray, List.getElem_cons_succ, List.getElem_cons_zero, List.setIfInBounds_toArray, List.set_cons_succ, List.set_cons_zero]
    apply takeH (i := 14) 19 rfl (by kernel_rfl) (by kernel_rfl) (by kernel_rfl) (fun _ _ _ h => h) rfl (by first | exact M.out | exact M.out.take 3)
    case' hy =>
      refine Or.inl ⟨by first | rfl | (go_simp; done), ?_⟩
      intro w hS
      clear hS
      go_simp
      try with_reducible rfl
    try simp only [Act.put, List.getElem_toArray, List.getElem_cons_succ, List.getElem_cons_zero, List.setIfInBounds_toArray, List.set_cons_succ, List.set_cons_zero]
    exact REST0 A77 c77 w_ M.out
  intro A77 c77 w_ m
  have M := Lib.hid m
  clear m M9
  refine wpAnyH_done (by kernel_rfl) ?_ _
  go_wp2_with (first
    | ((with_reducible refine gate_dst (N := 4) rfl ?_); go_must (refine M.out.ev_new rfl (by first | (go_simp; done) | (go_simp; rfl)) ?_); intro g4 w4 m; simp only [List.cons_append, List.nil_append] at m; have M := Lib.hid m; clear m)
    | ((with_reducible refine gate_dst (N := 5) rfl ?_); go_must (refine M.out.ev_new rfl (by first | (go_simp; done) | (go_simp; rfl)) ?_); intro g5 w5 m; simp only [List.cons_append, List.nil_append] at m; have M := Lib.hid m; clear m)
    | ((with_reducible refine gate_dst (N := 6) rfl ?_); go_must (refine M.out.ev_new rfl (by first | (go_simp; done) | (go_simp; rfl)) ?_); intro g6 w6 m; simp only [List.cons_append, List.nil_append] at m; have M := Lib.hid m; clear m)
    | ((with_reducible refine gate_dst (N := 21) rfl ?_); go_must (refine M.out.ev_ldw 0 _ _ rfl rfl rfl Try.underlying27 rfl (by first | exact sz27 | (rw [S1.out]; exact sz27) | (rw [S2.out]; exact sz27) | (rw [S3.out]; exact sz27)) rfl ?_))
    | ((with_reducible refine gate_dst (N := 23) rfl ?_); go_must (refine M.out.ev_ldw 1 _ _ rfl rfl rfl Try.underlying29 rfl (by first | exact sz29 | (rw [S1.out]; exact sz29) | (rw [S2.out]; exact sz29) | (rw [S3.out]; exact sz29)) rfl ?_))
    | ((with_reducible refine gate_dst (N := 25) rfl ?_); go_must (refine M.out.ev_ldw 2 _ _ rfl rfl rfl Try.underlying31 rfl (by first | exact sz31 | (rw [S1.out]; exact sz31) | (rw [S2.out]; exact sz31) | (rw [S3.out]; exact sz31)) rfl ?_))
    | ((with_reducible refine gate_dst (N := 33) rfl ?_); go_must (refine M.out.ev_ldw 0 _ _ rfl rfl rfl Try.underlying27 rfl (by first | exact sz27 | (rw [S1.out]; exact sz27) | (rw [S2.out]; exact sz27) | (rw [S3.out]; exact sz27)) rfl ?_))
    | ((with_reducible refine gate_dst (N := 35) rfl ?_); go_must (refine M.out.ev_ldw 1 _ _ rfl rfl rfl Try.underlying29 rfl (by first | exact sz29 | (rw [S1.out]; exact sz29) | (rw [S2.out]; exact sz29) | (rw [S3.out]; exact sz29)) rfl ?_))
    | ((with_reducible refine gate_dst (N := 37) rfl ?_); go_must (refine M.out.ev_ldw 2 _ _ rfl rfl rfl Try.underlying31 rfl (by first | exact sz31 | (rw [S1.out]; exact sz31) | (rw [S2.out]; exact sz31) | (rw [S3.out]; exact sz31)) rfl ?_))
    | ((with_reducible refine gate_dst (N := 70) rfl ?_); go_must (refine M.out.ev_ldw 0 _ _ rfl rfl rfl Try.underlying27 rfl (by first | exact sz27 | (rw [S1.out]; exact sz27) | (rw [S2.out]; exact sz27) | (rw [S3.out]; exact sz27)) rfl ?_))
    | ((with_reducible refine gate_dst (N := 72) rfl ?_); go_must (refine M.out.ev_ldw 1 _ _ rfl rfl rfl Try.underlying29 rfl (by first | exact sz29 | (rw [S1.out]; exact sz29) | (rw [S2.out]; exact sz29) | (rw [S3.out]; exact sz29)) rfl ?_))
    | ((with_reducible refine gate_dst (N := 74) rfl ?_); go_must (refine M.out.ev_ldw 2 _ _ rfl rfl rfl Try.underlying31 rfl (by first | exact sz31 | (rw [S1.out]; exact sz31) | (rw [S2.out]; exact sz31) | (rw [S3.out]; exact sz31)) rfl ?_))
    | (go_at_call 6; go_must (refine (toField_any F hF.toLen _).mono ?_); rintro e w_ ⟨rfl, hB_⟩; have M := Lib.hid (M.out.kept hB_); clear hB_)
    | (go_at_call 7; go_must (refine (toPrices_any p _).mono ?_); rintro e w_ ⟨rfl, N_⟩; have m := M.out.join N_; clear N_; simp only [List.cons_append, List.nil_append, List.append_nil] at m; have M := Lib.hid m; clear m)
    | (go_at_call 8; go_must (refine (toCells_any _ _).mono ?_); rintro e w_ ⟨rfl, hB_⟩; have M := Lib.hid (M.out.kept hB_); clear hB_)
    | (go_at_call 10; go_must (first | (refine Calls.mono (calls_args (by with_reducible rfl) (eqNetS_any _ _ _ _ R R _ hr (M.out.slof 4 rfl) (M.out.slof 3 rfl))) ?_) | (refine Calls.mono (calls_args (by with_reducible rfl) (eqNetS_any _ _ _ _ R R _ hr (M.out.slof 5 rfl) (M.out.slof 3 rfl))) ?_)); rintro e w_ ⟨rfl, N_⟩; have m := M.out.join N_; clear N_; simp only [List.cons_append, List.nil_append, List.append_nil] at m; have M := Lib.hid m; clear m; rw [decide_eq_true rfl])
    | (go_at_call 11; go_must (first | (refine Calls.mono (calls_args (by with_reducible rfl) (markNet_any 4 M.out _ _ R rfl hr)) ?_)); rintro e w_ ⟨rfl, m⟩; simp only [List.set_cons_succ, List.set_cons_zero] at m; have M := Lib.hid m; clear m)
    | (go_at_call 12; go_must (refine (heldNet_any _ _ R.length hr _ (M.out.slof 4 rfl)).mono ?_); rintro e w_ ⟨rfl, rfl⟩)
    )
  go_ret
  exact ⟨ret_bool rfl, M.out.take 0⟩
end Go.Proofs.Ytjkclggdaafmaaa
namespace Go.Proofs.Ytjkclggdaafmaaa
set_option linter.unusedSimpArgs false
set_option linter.unusedVariables false
open Go.RowKit
structure Entry where
  what : Int
  cell : Int
  amount : Int
  deriving DecidableEq
def Entry.vals (x : Entry) : List Value := [.int .i8 x.what, .int .i16 x.cell, .int .i16 x.amount]
theorem Entry.vl (x : Entry) : x.vals.length = 3 := rfl
theorem Entry.one (x : Entry) : x.vals.toArray.all (·.oneCell') = true := by simp [Entry.vals, Value.oneCell']
def Entry.z : Entry := ⟨0, 0, 0⟩
end Go.Proofs.Ytjkclggdaafmaaa
namespace Go.Proofs.Ytjkclggdaafmaaa
set_option linter.unusedSimpArgs false
set_option linter.unusedVariables false
open Go.RowKit
attribute [local go_sem] cell?_mk frozen?_mk
def Entry.plain (x : Entry) : Bool := inB x.what 0 3 && (inB x.cell 0 99 && inB x.amount 1 1000)
/-- An entry as Go can hold it. -/
structure Entry.ok (x : Entry) : Prop where
  a : -128 ≤ x.what ∧ x.what ≤ 127
  b : -32768 ≤ x.cell ∧ x.cell ≤ 32767
  c : -32768 ≤ x.amount ∧ x.amount ≤ 32767
/-- The code of an entry that is made. -/
def Fld.code (F : Fld) (x : Entry) : Int :=
  if (x.plain && F.has x.cell) = false then 2 else if F.kind x.cell.toNat ≠ 0 then 4 else
  if x.what = 0 then (if 1000 < F.seed x.cell.toNat + x.amount then 3 else 0) else (if F.seed x.cell.toNat < x.amount then 8 else 0)
/-- The field behind an entry that has been made. -/
def Fld.made (F : Fld) (x : Entry) : Fld :=
  F.withSeed x.cell.toNat (if x.what = 0 then F.seed x.cell.toNat + x.amount else F.seed x.cell.toNat - x.amount)
def Fld.after (F : Fld) (x : Entry) : Fld := if F.code x = 0 then F.made x else F

/-- What 'apply' leaves: its code, and the field in its place. -/
def Made (F : Fld) (x : Entry) (b : Nat) (w : World) (e : Ending) (w' : World) : Prop :=
  e = .returned (.int .i64 (F.code x)) ∧ Blk w' b 35 (F.after x).cells ∧ w.grownBy w' (some b)

end Go.Proofs.Ytjkclggdaafmaaa
