/- Texts of a proof, laid together: BestDay. -/
import Derived.Test.YtdnofkngljjbmaaZP13
import Derived.Test.YtdnofkngljjbmaaZP11
namespace Go.Proofs.Ytdnofkngljjbmaa
set_option linter.unusedSimpArgs false
set_option linter.unusedVariables false
open Go.RowKit
attribute [local go_sem] cell?_mk frozen?_mk
--ONES exact Plot.one _

theorem bestD_pos {x : Plot} {k : Nat} (h : (bestD x k).2 < x.worth k) : bestD x (k + 1) = (k, x.worth k) := by rw [bestD, if_pos h]
theorem bestD_neg {x : Plot} {k : Nat} (h : ¬ ((bestD x k).2 < x.worth k)) : bestD x (k + 1) = bestD x k := by rw [bestD, if_neg h]
set_option maxRecDepth 100000 in
set_option maxHeartbeats 2000000 in
theorem best_any (x : Plot) (hp : x.fine = true) (D : Nat) (d0 : 1 ≤ D) (d1 : D ≤ 20) (w : World) :
    Calls Try.prog 64 #[.agg x.vals.toArray, .int .i64 D] w fun e w' => e = .returned (.tuple #[.int .i64 (bestD x D).1, .int .i64 (bestD x D).2]) ∧ Mem w w' [] := by
  have M := Lib.hid (Mem.start w)
  have W := Lib.hid (fun d d0 d1 w => worth_any x hp d d0 d1 w)
  have HP := Lib.hid hp
  clear hp
  go_enter Try.func64, Try.ntmps64
  go_wp2_with (first
    | ((with_reducible refine gate_dst (N := 2) rfl ?_); go_must (refine M.out.ev_new rfl (by first | (go_simp; done) | (go_simp; rfl)) ?_); intro g2 w2 m; simp only [List.cons_append, List.nil_append] at m; have M := Lib.hid m; clear m)
    | ((with_reducible refine gate_dst (N := 10) rfl ?_); go_must (refine M.out.ev_ldw 0 _ _ rfl rfl rfl Try.underlying40 rfl (by first | exact sz40 | (rw [S1.out]; exact sz40) | (rw [S2.out]; exact sz40) | (rw [S3.out]; exact sz40)) rfl ?_))
    | ((with_reducible refine gate_dst (N := 16) rfl ?_); go_must (refine M.out.ev_ldw 0 _ _ rfl rfl rfl Try.underlying40 rfl (by first | exact sz40 | (rw [S1.out]; exact sz40) | (rw [S2.out]; exact sz40) | (rw [S3.out]; exact sz40)) rfl ?_))
    | (go_at_call 60; go_must (refine (W.out _ (by omega) (by omega) _).mono ?_); rintro e w_ ⟨rfl, N_⟩; have m := M.out.join N_; clear N_; simp only [List.cons_append, List.nil_append, List.append_nil] at m; have M := Lib.hid m; clear m)
    )
  go_loopw [6, 7, 13] (fun a b c wr => ∃ k : Nat, k ≤ D ∧ c = .int .i64 k ∧ a = .int .i64 (bestD x k).1 ∧ b = .int .i64 (bestD x k).2 ∧ Mem w wr [.blk g2 40 x.vals.toArray])
    (fun _ _ c _ => D - (intOf c).toNat)
  case atStart => exact ⟨0, by omega, rfl, rfl, rfl, M.out⟩
  case round =>
    clear M
    obtain ⟨k, hk, rfl, rfl, rfl, m⟩ := hrel
    have M := Lib.hid m
    clear m
    by_cases hlt : k < D
    · have i1 : (k : Int) < (D : Int) := by omega
      by_cases hb : (bestD x k).2 < x.worth k
      · have HB := Lib.hid (bestD_pos hb)
        go_wp2_with (first
          | ((with_reducible refine gate_dst (N := 2) rfl ?_); go_must (refine M.out.ev_new rfl (by first | (go_simp; done) | (go_simp; rfl)) ?_); intro g2 w2 m; simp only [List.cons_append, List.nil_append] at m; have M := Lib.hid m; clear m)
          | ((with_reducible refine gate_dst (N := 10) rfl ?_); go_must (refine M.out.ev_ldw 0 _ _ rfl rfl rfl Try.underlying40 rfl (by first | exact sz40 | (rw [S1.out]; exact sz40) | (rw [S2.out]; exact sz40) | (rw [S3.out]; exact sz40)) rfl ?_))
          | ((with_reducible refine gate_dst (N := 16) rfl ?_); go_must (refine M.out.ev_ldw 0 _ _ rfl rfl rfl Try.underlying40 rfl (by first | exact sz40 | (rw [S1.out]; exact sz40) | (rw [S2.out]; exact sz40) | (rw [S3.out]; exact sz40)) rfl ?_))
          | (go_at_call 60; go_must (refine (W.out _ (by omega) (by omega) _).mono ?_); rintro e w_ ⟨rfl, N_⟩; have m := M.out.join N_; clear N_; simp only [List.cons_append, List.nil_append, List.append_nil] at m; have M := Lib.hid m; clear m)
          )
        exact ⟨⟨k + 1, by omega, by go_num, by rw [HB.out], by rw [HB.out], M.out⟩, by simp [intOf]; omega⟩
      · have HB := Lib.hid (bestD_neg hb)
        go_wp2_with (first
          | ((with_reducible refine gate_dst (N := 2) rfl ?_); go_must (refine M.out.ev_new rfl (by first | (go_simp; done) | (go_simp; rfl)) ?_); intro g2 w2 m; simp only [List.cons_append, List.nil_append] at m; have M := Lib.hid m; clear m)
          | ((with_reducible refine gate_dst (N := 10) rfl ?_); go_must (refine M.out.ev_ldw 0 _ _ rfl rfl rfl Try.underlying40 rfl (by first | exact sz40 | (rw [S1.out]; exact sz40) | (rw [S2.out]; exact sz40) | (rw [S3.out]; exact sz40)) rfl ?_))
          | ((with_reducible refine gate_dst (N := 16) rfl ?_); go_must (refine M.out.ev_ldw 0 _ _ rfl rfl rfl Try.underlying40 rfl (by first | exact sz40 | (rw [S1.out]; exact sz40) | (rw [S2.out]; exact sz40) | (rw [S3.out]; exact sz40)) rfl ?_))
          | (go_at_call 60; go_must (refine (W.out _ (by omega) (by omega) _).mono ?_); rintro e w_ ⟨rfl, N_⟩; have m := M.out.join N_; clear N_; simp only [List.cons_append, List.nil_append, List.append_nil] at m; have M := Lib.hid m; clear m)
          )
        exact ⟨⟨k + 1, by omega, by go_num, by rw [HB.out], by rw [HB.out], M.out⟩, by simp [intOf]; omega⟩
    · obtain rfl : k = D := by omega
      go_wp2
      go_ret2
      exact ⟨rfl, M.out.take 0⟩
set_option maxRecDepth 100000 in
set_option maxHeartbeats 2000000 in
theorem l07Best_any (x : Plot) (hp : x.fine = true) (D : Nat) (d0 : 1 ≤ D) (d1 : D ≤ 20) (w : World) :
    Calls Try.prog 72 #[.agg x.vals.toArray, .int .i64 D] w fun e w' => e = .returned (.tuple #[.int .i64 (bestD x D).1, .int .i64 (bestD x D).2]) ∧ Mem w w' [] := by
  have M := Lib.hid (Mem.start w)
  have W := Lib.hid (fun d d0 d1 w => l07Worth_any x hp d d0 d1 w)
  have HP := Lib.hid hp
  have B1 := Lib.hid (bestD_1 x)
  clear hp
  go_enter Try.func72, Try.ntmps72
  go_wp2_with (first
    | ((with_reducible refine gate_dst (N := 2) rfl ?_); go_must (refine M.out.ev_new rfl (by first | (go_simp; done) | (go_simp; rfl)) ?_); intro g2 w2 m; simp only [List.cons_append, List.nil_append] at m; have M := Lib.hid m; clear m)
    | ((with_reducible refine gate_dst (N := 13) rfl ?_); go_must (refine M.out.ev_ldw 0 _ _ rfl rfl rfl Try.underlying40 rfl (by first | exact sz40 | (rw [S1.out]; exact sz40) | (rw [S2.out]; exact sz40) | (rw [S3.out]; exact sz40)) rfl ?_))
    | ((with_reducible refine gate_dst (N := 16) rfl ?_); go_must (refine M.out.ev_ldw 0 _ _ rfl rfl rfl Try.underlying40 rfl (by first | exact sz40 | (rw [S1.out]; exact sz40) | (rw [S2.out]; exact sz40) | (rw [S3.out]; exact sz40)) rfl ?_))
    | ((with_reducible refine gate_dst (N := 22) rfl ?_); go_must (refine M.out.ev_ldw 0 _ _ rfl rfl rfl Try.underlying40 rfl (by first | exact sz40 | (rw [S1.out]; exact sz40) | (rw [S2.out]; exact sz40) | (rw [S3.out]; exact sz40)) rfl ?_))
    )
  go_loopw [6, 7] (fun a c wr => ∃ k : Nat, 1 ≤ k ∧ k ≤ D ∧ c = .int .i64 k ∧ a = .int .i64 (bestD x k).1 ∧ Mem w wr [.blk g2 40 x.vals.toArray])
    (fun _ c _ => D - (intOf c).toNat)
  case atStart => exact ⟨1, by omega, by omega, rfl, by rw [B1.out]; rfl, M.out⟩
  case round =>
    clear M
    obtain ⟨k, hk1, hk, rfl, rfl, m⟩ := hrel
    have M := Lib.hid m
    clear m
    have HW := Lib.hid (bestD_worth x k)
    have hbb := bestD_b x k
    obtain ⟨b, hbd⟩ : ∃ b, b = (bestD x k).1 := ⟨_, rfl⟩
    rw [← hbd] at hbb ⊢
    have HBD := Lib.hid hbd
    clear hbd
    by_cases hlt : k < D
    · have i1 : (k : Int) < (D : Int) := by omega
      by_cases hb : x.worth b < x.worth k
      · have HB := Lib.hid (bestD_pos (x := x) (k := k) (by rw [HW.out, ← HBD.out]; exact hb))
        go_wp2_with (first
          | ((with_reducible refine gate_dst (N := 2) rfl ?_); go_must (refine M.out.ev_new rfl (by first | (go_simp; done) | (go_simp; rfl)) ?_); intro g2 w2 m; simp only [List.cons_append, List.nil_append] at m; have M := Lib.hid m; clear m)
          | ((with_reducible refine gate_dst (N := 13) rfl ?_); go_must (refine M.out.ev_ldw 0 _ _ rfl rfl rfl Try.underlying40 rfl (by first | exact sz40 | (rw [S1.out]; exact sz40) | (rw [S2.out]; exact sz40) | (rw [S3.out]; exact sz40)) rfl ?_))
          | ((with_reducible refine gate_dst (N := 16) rfl ?_); go_must (refine M.out.ev_ldw 0 _ _ rfl rfl rfl Try.underlying40 rfl (by first | exact sz40 | (rw [S1.out]; exact sz40) | (rw [S2.out]; exact sz40) | (rw [S3.out]; exact sz40)) rfl ?_))
          | ((with_reducible refine gate_dst (N := 22) rfl ?_); go_must (refine M.out.ev_ldw 0 _ _ rfl rfl rfl Try.underlying40 rfl (by first | exact sz40 | (rw [S1.out]; exact sz40) | (rw [S2.out]; exact sz40) | (rw [S3.out]; exact sz40)) rfl ?_))
          )
        refine region_anyH (fun w' => Mem w w' [.blk g2 40 x.vals.toArray]) (by kernel_rfl) ?_
        have m := M.out.drew
        clear M
        have M := Lib.hid m
        clear m
        apply takeH (i := 0) 13 rfl (by kernel_rfl) (by kernel_rfl) (by kernel_rfl) (fun _ _ _ h => h) rfl (by first | exact M.out | exact M.out.take 1)
        case' hy => exact yldw _ _ rfl rfl Try.underlying40 rfl (by first | exact sz40 | (rw [S1.out]; exact sz40) | (rw [S2.out]; exact sz40) | (rw [S3.out]; exact sz40)) rfl (fun w' hS => hS.blk 0 rfl)
        try simp only [Act.put, List.getElem_toArray, List.getElem_cons_succ, List.getElem_cons_zero, List.setIfInBounds_toArray, List.set_cons_succ, List.set_cons_zero]
        apply takeH (i := 1) 14 rfl (by kernel_rfl) (by kernel_rfl) (by kernel_rfl) (fun _ _ _ h => h) rfl (by first | exact M.out | exact M.out.take 1)
        case' hy =>
          refine Or.inl ⟨by first | rfl | (go_simp; done), ?_⟩
          intro w hS
          clear hS
          go_simp
          try with_reducible rfl
        try simp only [Act.put, List.getElem_toArray, List.getElem_cons_succ, List.getElem_cons_zero, List.setIfInBounds_toArray, List.set_cons_succ, List.set_cons_zero]
        apply takeH (i := 3) 16 rfl (by kernel_rfl) (by kernel_rfl) (by kernel_rfl) (fun _ _ _ h => h) rfl (by first | exact M.out | exact M.out.take 1)
        case' hy => exact yldw _ _ rfl rfl Try.underlying40 rfl (by first | exact sz40 | (rw [S1.out]; exact sz40) | (rw [S2.out]; exact sz40) | (rw [S3.out]; exact sz40)) rfl (fun w' hS => hS.blk 0 rfl)
        try simp only [Act.put, List.getElem_toArray, List.getElem_cons_succ, List.getElem_cons_zero, List.setIfInBounds_toArray, List.set_cons_succ, List.set_cons_zero]
        apply takeH (i := 4) 17 rfl (by kernel_rfl) (by kernel_rfl) (by kernel_rfl) (fun _ _ _ h => h) rfl (by first | exact M.out | exact M.out.take 1)
        case' hy =>
          refine Or.inl ⟨by first | rfl | (go_simp; done), ?_⟩
          intro w hS
          clear hS
          go_simp
          try with_reducible rfl
        try simp only [Act.put, List.getElem_toArray, List.getElem_cons_succ, List.getElem_cons_zero, List.setIfInBounds_toArray, List.set_cons_succ, List.set_cons_zero]
        refine any1H 2 (by kernel_rfl) rfl (fun K hK => ?_)
        go_wp2_with (first | ((with_reducible refine gate_dst (N := 13) rfl ?_); go_must (refine M.out.ev_ldw 0 _ _ rfl rfl rfl Try.underlying40 rfl (by first | exact sz40 | (rw [S1.out]; exact sz40) | (rw [S2.out]; exact sz40) | (rw [S3.out]; exact sz40)) rfl ?_)) | ((with_reducible refine gate_dst (N := 16) rfl ?_); go_must (refine M.out.ev_ldw 0 _ _ rfl rfl rfl Try.underlying40 rfl (by first | exact sz40 | (rw [S1.out]; exact sz40) | (rw [S2.out]; exact sz40) | (rw [S3.out]; exact sz40)) rfl ?_)) | (go_at_call 63; go_must (refine (W.out _ (by omega) (by omega) _).mono ?_); rintro e w_ ⟨rfl, N_⟩; have m := M.out.join N_; clear N_; simp only [List.cons_append, List.nil_append, List.append_nil] at m; have M := Lib.hid m; clear m))
        refine onward_normal (hK _ _ ⟨(by first | exact M.out | exact M.out.take 1), ?_⟩)
        clear hK K
        try simp only [Act.put, List.getElem_toArray, List.getElem_cons_succ, List.getElem_cons_zero, List.setIfInBounds_toArray, List.set_cons_succ, List.set_cons_zero]
        refine any1H 5 (by kernel_rfl) rfl (fun K hK => ?_)
        go_wp2_with (first | ((with_reducible refine gate_dst (N := 13) rfl ?_); go_must (refine M.out.ev_ldw 0 _ _ rfl rfl rfl Try.underlying40 rfl (by first | exact sz40 | (rw [S1.out]; exact sz40) | (rw [S2.out]; exact sz40) | (rw [S3.out]; exact sz40)) rfl ?_)) | ((with_reducible refine gate_dst (N := 16) rfl ?_); go_must (refine M.out.ev_ldw 0 _ _ rfl rfl rfl Try.underlying40 rfl (by first | exact sz40 | (rw [S1.out]; exact sz40) | (rw [S2.out]; exact sz40) | (rw [S3.out]; exact sz40)) rfl ?_)) | (go_at_call 63; go_must (refine (W.out _ (by omega) (by omega) _).mono ?_); rintro e w_ ⟨rfl, N_⟩; have m := M.out.join N_; clear N_; simp only [List.cons_append, List.nil_append, List.append_nil] at m; have M := Lib.hid m; clear m))
        refine onward_normal (hK _ _ ⟨(by first | exact M.out | exact M.out.take 1), ?_⟩)
        clear hK K
        try simp only [Act.put, List.getElem_toArray, List.getElem_cons_succ, List.getElem_cons_zero, List.setIfInBounds_toArray, List.set_cons_succ, List.set_cons_zero]
        apply takeH (i := 6) 19 rfl (by kernel_rfl) (by kernel_rfl) (by kernel_rfl) (fun _ _ _ h => h) rfl (by first | exact M.out | exact M.out.take 1)
        case' hy =>
          refine Or.inl ⟨by first | rfl | (go_simp; done), ?_⟩
          intro w hS
          clear hS
          go_simp
          try with_reducible rfl
        try simp only [Act.put, List.getElem_toArray, List.getElem_cons_succ, List.getElem_cons_zero, List.setIfInBounds_toArray, List.set_cons_succ, List.set_cons_zero]
        refine wpAnyH_done (by kernel_rfl) ?_ _
        all_goals
          go_wp2
          exact ⟨⟨k + 1, by omega, by omega, by go_num, by rw [HB.out], M.out⟩, by simp [intOf]; omega⟩
      · have HB := Lib.hid (bestD_neg (x := x) (k := k) (by rw [HW.out, ← HBD.out]; exact hb))
        go_wp2_with (first
          | ((with_reducible refine gate_dst (N := 2) rfl ?_); go_must (refine M.out.ev_new rfl (by first | (go_simp; done) | (go_simp; rfl)) ?_); intro g2 w2 m; simp only [List.cons_append, List.nil_append] at m; have M := Lib.hid m; clear m)
          | ((with_reducible refine gate_dst (N := 13) rfl ?_); go_must (refine M.out.ev_ldw 0 _ _ rfl rfl rfl Try.underlying40 rfl (by first | exact sz40 | (rw [S1.out]; exact sz40) | (rw [S2.out]; exact sz40) | (rw [S3.out]; exact sz40)) rfl ?_))
          | ((with_reducible refine gate_dst (N := 16) rfl ?_); go_must (refine M.out.ev_ldw 0 _ _ rfl rfl rfl Try.underlying40 rfl (by first | exact sz40 | (rw [S1.out]; exact sz40) | (rw [S2.out]; exact sz40) | (rw [S3.out]; exact sz40)) rfl ?_))
          | ((with_reducible refine gate_dst (N := 22) rfl ?_); go_must (refine M.out.ev_ldw 0 _ _ rfl rfl rfl Try.underlying40 rfl (by first | exact sz40 | (rw [S1.out]; exact sz40) | (rw [S2.out]; exact sz40) | (rw [S3.out]; exact sz40)) rfl ?_))
          )
        refine region_anyH (fun w' => Mem w w' [.blk g2 40 x.vals.toArray]) (by kernel_rfl) ?_
        have m := M.out.drew
        clear M
        have M := Lib.hid m
        clear m
        apply takeH (i := 0) 13 rfl (by kernel_rfl) (by kernel_rfl) (by kernel_rfl) (fun _ _ _ h => h) rfl (by first | exact M.out | exact M.out.take 1)
        case' hy => exact yldw _ _ rfl rfl Try.underlying40 rfl (by first | exact sz40 | (rw [S1.out]; exact sz40) | (rw [S2.out]; exact sz40) | (rw [S3.out]; exact sz40)) rfl (fun w' hS => hS.blk 0 rfl)
        try simp only [Act.put, List.getElem_toArray, List.getElem_cons_succ, List.getElem_cons_zero, List.setIfInBounds_toArray, List.set_cons_succ, List.set_cons_zero]
        apply takeH (i := 1) 14 rfl (by kernel_rfl) (by kernel_rfl) (by kernel_rfl) (fun _ _ _ h => h) rfl (by first | exact M.out | exact M.out.take 1)
        case' hy =>
          refine Or.inl ⟨by first | rfl | (go_simp; done), ?_⟩
          intro w hS
          clear hS
          go_simp
          try with_reducible rfl
        try simp only [Act.put, List.getElem_toArray, List.getElem_cons_succ, List.getElem_cons_zero, List.setIfInBounds_toArray, List.set_cons_succ, List.set_cons_zero]
        apply takeH (i := 3) 16 rfl (by kernel_rfl) (by kernel_rfl) (by kernel_rfl) (fun _ _ _ h => h) rfl (by first | exact M.out | exact M.out.take 1)
        case' hy => exact yldw _ _ rfl rfl Try.underlying40 rfl (by first | exact sz40 | (rw [S1.out]; exact sz40) | (rw [S2.out]; exact sz40) | (rw [S3.out]; exact sz40)) rfl (fun w' hS => hS.blk 0 rfl)
        try simp only [Act.put, List.getElem_toArray, List.getElem_cons_succ, List.getElem_cons_zero, List.setIfInBounds_toArray, List.set_cons_succ, List.set_cons_zero]
        apply takeH (i := 4) 17 rfl (by kernel_rfl) (by kernel_rfl) (by kernel_rfl) (fun _ _ _ h => h) rfl (by first | exact M.out | exact M.out.take 1)
        case' hy =>
          refine Or.inl ⟨by first | rfl | (go_simp; done), ?_⟩
          intro w hS
          clear hS
          go_simp
          try with_reducible rfl
        try simp only [Act.put, List.getElem_toArray, List.getElem_cons_succ, List.getElem_cons_zero, List.setIfInBounds_toArray, List.set_cons_succ, List.set_cons_zero]
        refine any1H 2 (by kernel_rfl) rfl (fun K hK => ?_)
        go_wp2_with (first | ((with_reducible refine gate_dst (N := 13) rfl ?_); go_must (refine M.out.ev_ldw 0 _ _ rfl rfl rfl Try.underlying40 rfl (by first | exact sz40 | (rw [S1.out]; exact sz40) | (rw [S2.out]; exact sz40) | (rw [S3.out]; exact sz40)) rfl ?_)) | ((with_reducible refine gate_dst (N := 16) rfl ?_); go_must (refine M.out.ev_ldw 0 _ _ rfl rfl rfl Try.underlying40 rfl (by first | exact sz40 | (rw [S1.out]; exact sz40) | (rw [S2.out]; exact sz40) | (rw [S3.out]; exact sz40)) rfl ?_)) | (go_at_call 63; go_must (refine (W.out _ (by omega) (by omega) _).mono ?_); rintro e w_ ⟨rfl, N_⟩; have m := M.out.join N_; clear N_; simp only [List.cons_append, List.nil_append, List.append_nil] at m; have M := Lib.hid m; clear m))
        refine onward_normal (hK _ _ ⟨(by first | exact M.out | exact M.out.take 1), ?_⟩)
        clear hK K
        try simp only [Act.put, List.getElem_toArray, List.getElem_cons_succ, List.getElem_cons_zero, List.setIfInBounds_toArray, List.set_cons_succ, List.set_cons_zero]
        refine any1H 5 (by kernel_rfl) rfl (fun K hK => ?_)
        go_wp2_with (first | ((with_reducible refine gate_dst (N := 13) rfl ?_); go_must (refine M.out.ev_ldw 0 _ _ rfl rfl rfl Try.underlying40 rfl (by first | exact sz40 | (rw [S1.out]; exact sz40) | (rw [S2.out]; exact sz40) | (rw [S3.out]; exact sz40)) rfl ?_)) | ((with_reducible refine gate_dst (N := 16) rfl ?_); go_must (refine M.out.ev_ldw 0 _ _ rfl rfl rfl Try.underlying40 rfl (by first | exact sz40 | (rw [S1.out]; exact sz40) | (rw [S2.out]; exact sz40) | (rw [S3.out]; exact sz40)) rfl ?_)) | (go_at_call 63; go_must (refine (W.out _ (by omega) (by omega) _).mono ?_); rintro e w_ ⟨rfl, N_⟩; have m := M.out.join N_; clear N_; simp only [List.cons_append, List.nil_append, List.append_nil] at m; have M := Lib.hid m; clear m))
        refine onward_normal (hK _ _ ⟨(by first | exact M.out | exact M.out.take 1), ?_⟩)
        clear hK K
        try simp only [Act.put, List.getElem_toArray, List.getElem_cons_succ, List.getElem_cons_zero, List.setIfInBounds_toArray, List.set_cons_succ, List.set_cons_zero]
        apply takeH (i := 6) 19 rfl (by kernel_rfl) (by kernel_rfl) (by kernel_rfl) (fun _ _ _ h => h) rfl (by first | exact M.out | exact M.out.take 1)
        case' hy =>
          refine Or.inl ⟨by first | rfl | (go_simp; done), ?_⟩
          intro w hS
          clear hS
          go_simp
          try with_reducible rfl
        try simp only [Act.put, List.getElem_toArray, List.getElem_cons_succ, List.getElem_cons_zero, List.setIfInBounds_toArray, List.set_cons_succ, List.set_cons_zero]
        refine wpAnyH_done (by kernel_rfl) ?_ _
        all_goals
          go_wp2
          exact ⟨⟨k + 1, by omega, by omega, by go_num, by rw [HB.out, HBD.out], M.out⟩, by simp [intOf]; omega⟩
    · obtain rfl : k = D := by omega
      go_wp2_with (first
        | ((with_reducible refine gate_dst (N := 2) rfl ?_); go_must (refine M.out.ev_new rfl (by first | (go_simp; done) | (go_simp; rfl)) ?_); intro g2 w2 m; simp only [List.cons_append, List.nil_append] at m; have M := Lib.hid m; clear m)
        | ((with_reducible refine gate_dst (N := 13) rfl ?_); go_must (refine M.out.ev_ldw 0 _ _ rfl rfl rfl Try.underlying40 rfl (by first | exact sz40 | (rw [S1.out]; exact sz40) | (rw [S2.out]; exact sz40) | (rw [S3.out]; exact sz40)) rfl ?_))
        | ((with_reducible refine gate_dst (N := 16) rfl ?_); go_must (refine M.out.ev_ldw 0 _ _ rfl rfl rfl Try.underlying40 rfl (by first | exact sz40 | (rw [S1.out]; exact sz40) | (rw [S2.out]; exact sz40) | (rw [S3.out]; exact sz40)) rfl ?_))
        | ((with_reducible refine gate_dst (N := 22) rfl ?_); go_must (refine M.out.ev_ldw 0 _ _ rfl rfl rfl Try.underlying40 rfl (by first | exact sz40 | (rw [S1.out]; exact sz40) | (rw [S2.out]; exact sz40) | (rw [S3.out]; exact sz40)) rfl ?_))
        | (go_at_call 63; go_must (refine (W.out _ (by omega) (by omega) _).mono ?_); rintro e w_ ⟨rfl, N_⟩; have m := M.out.join N_; clear N_; simp only [List.cons_append, List.nil_append, List.append_nil] at m; have M := Lib.hid m; clear m)
        )
      go_ret2
      refine ⟨?_, M.out.take 0⟩
      rw [HW.out, HBD.out]
      rfl
set_option maxRecDepth 100000 in
set_option maxHeartbeats 1000000 in
theorem isPlot_any (A : Option Addr) (n c : Nat) (hn : n ≤ 1048576) (i : Int) (w : World) :
    Calls Try.prog 68 #[.slice A n c, .int .i64 i] w fun e w' => e = .returned (.bool (inB i 0 ((n : Int) - 1))) ∧ w = w' := by
  have w1 : IntKind.i64.wrap ((n : Int) - 1) = (n : Int) - 1 := IntWalk.i64_in _ (by omega)
  go_enter Try.func68, Try.ntmps68
  go_wp2_with (first
    | (go_at_call 66; go_must (refine (within_any _ _ _ _).mono ?_); rintro e w_ ⟨rfl, rfl⟩)
    )
  go_ret
  exact ⟨rfl, rfl⟩
set_option maxRecDepth 100000 in
set_option maxHeartbeats 1000000 in
theorem l07Index_any (A : Option Addr) (n c : Nat) (hn : n ≤ 1048576) (i : Int) (w : World) :
    Calls Try.prog 70 #[.slice A n c, .int .i64 i] w fun e w' => e = .returned (.bool (inB i 0 ((n : Int) - 1))) ∧ w = w' := by
  have w1 : IntKind.i64.wrap ((n : Int) - 1) = (n : Int) - 1 := IntWalk.i64_in _ (by omega)
  go_enter Try.func70, Try.ntmps70
  go_wp2_with (first
    | (go_at_call 97; go_must (refine (l00In_any _ _ _ _).mono ?_); rintro e w_ ⟨rfl, rfl⟩)
    )
  go_ret
  exact ⟨rfl, rfl⟩
theorem plCode_ok {xs : List Plot} (h : plotsOk xs = true) : plCode xs true = 0 := by rw [plCode, if_pos h]; rfl
section
variable (A : Option Addr) (n : Nat) (xs : List Plot) (hx : ∀ x ∈ xs, x.ok) (hok : plotsOk xs = true) (k : Nat) (hk : k < xs.length) (w : World) (hs : Sl w 4 A xs.length (flat Plot.vals xs))
include hx hok hk hs
set_option maxRecDepth 100000 in
set_option maxHeartbeats 2000000 in
theorem impl_BestDay_any (D : Nat) (d0 : 1 ≤ D) (d1 : D ≤ 20) :
    Calls Try.prog 19 #[.slice A xs.length n, .int .i64 k, .int .i64 D] w fun e w' => e = .returned (.tuple #[.int .i64 (bestD xs[k] D).1, .int .i64 (bestD xs[k] D).2, .int .i64 0]) ∧ Mem w w' [] := by
  have M := Lib.hid (Mem.start w)
  obtain ⟨hf, h6⟩ := plotsOk_iff.1 hok
  have PC := Lib.hid (fun b w hs => plotsCode_any A n xs hx (by omega) b w hs)
  have HP0 := Lib.hid (plCode_ok hok)
  have BA := Lib.hid (fun w => best_any xs[k] (hf _ (List.getElem_mem hk)) D d0 d1 w)
  have HS := Lib.hid hs
  have q1 := Lib.hid (inB_iff.2 ⟨by omega, by omega⟩ : inB (k : Int) 0 ((xs.length : Int) - 1) = true)
  have q2 := Lib.hid (inB_iff.2 ⟨by omega, by omega⟩ : inB (D : Int) 1 20 = true)
  obtain ⟨b, off, rfl, hr⟩ := hs.2 (by omega)
  have R := Lib.hid (range_at Plot.vl hr (List.getElem?_eq_getElem hk))
  have i0 : (0 : Int) ≤ (k : Int) := by omega
  have i1 : (k : Int) < (xs.length : Int) := by omega
  clear hr hs hf hok hx
  go_enter Try.func19, Try.ntmps19
  go_wp2_with (first
    | ((with_reducible refine gate_dst (N := 28) rfl ?_); go_must (refine ev_ldr _ _ rfl rfl (M.out.argR R.out) Try.underlying40 rfl (by first | exact sz40 | (rw [S1.out]; exact sz40)) rfl ?_))
    | (go_at_call 68; go_must (refine (isPlot_any _ _ _ (by omega) _ _).mono ?_); rintro e w_ ⟨rfl, rfl⟩; rw [q1.out])
    | (go_at_call 55; go_must (refine (areDays_any _ _).mono ?_); rintro e w_ ⟨rfl, rfl⟩; rw [q2.out])
    | (go_at_call 53; go_must (refine (PC.out _ _ (M.out.sl HS.out)).mono ?_); rintro e w_ ⟨rfl, N_⟩; have m := M.out.join N_; clear N_; simp only [List.cons_append, List.nil_append, List.append_nil] at m; have M := Lib.hid m; clear m; rw [HP0.out])
    | (go_at_call 64; go_must (refine (BA.out _).mono ?_); rintro e w_ ⟨rfl, N_⟩; have m := M.out.join N_; clear N_; simp only [List.cons_append, List.nil_append, List.append_nil] at m; have M := Lib.hid m; clear m)
    )
  go_ret3
  exact ⟨rfl, M.out.take 0⟩
set_option maxRecDepth 100000 in
set_option maxHeartbeats 2000000 in
theorem spec_BestDay_any (D : Nat) (d0 : 1 ≤ D) (d1 : D ≤ 20) :
    Calls Try.prog 20 #[.slice A xs.length n, .int .i64 k, .int .i64 D] w fun e w' => e = .returned (.tuple #[.int .i64 (bestD xs[k] D).1, .int .i64 (bestD xs[k] D).2, .int .i64 0]) ∧ Mem w w' [] := by
  have M := Lib.hid (Mem.start w)
  obtain ⟨hf, h6⟩ := plotsOk_iff.1 hok
  have PC := Lib.hid (fun b w hs => l07Asked_any A n xs hx (by omega) b w hs)
  have HP0 := Lib.hid (plCode_ok hok)
  have BA := Lib.hid (fun w => l07Best_any xs[k] (hf _ (List.getElem_mem hk)) D d0 d1 w)
  have HS := Lib.hid hs
  have q1 := Lib.hid (inB_iff.2 ⟨by omega, by omega⟩ : inB (k : Int) 0 ((xs.length : Int) - 1) = true)
  have q2 := Lib.hid (inB_iff.2 ⟨by omega, by omega⟩ : inB (D : Int) 1 20 = true)
  obtain ⟨b, off, rfl, hr⟩ := hs.2 (by omega)
  have R := Lib.hid (range_at Plot.vl hr (List.getElem?_eq_getElem hk))
  have i0 : (0 : Int) ≤ (k : Int) := by omega
  have i1 : (k : Int) < (xs.length : Int) := by omega
  clear hr hs hf hok hx
  go_enter Try.func20, Try.ntmps20
  go_wp2_with (first
    | ((with_reducible refine gate_dst (N := 28) rfl ?_); go_must (refine ev_ldr _ _ rfl rfl (M.out.argR R.out) Try.underlying40 rfl (by first | exact sz40 | (rw [S1.out]; exact sz40)) rfl ?_))
    | (go_at_call 70; go_must (refine (l07Index_any _ _ _ (by omega) _ _).mono ?_); rintro e w_ ⟨rfl, rfl⟩; rw [q1.out])
    | (go_at_call 71; go_must (refine (l07Days_any _ _).mono ?_); rintro e w_ ⟨rfl, rfl⟩; rw [q2.out])
    | (go_at_call 69; go_must (refine (PC.out _ _ (M.out.sl HS.out)).mono ?_); rintro e w_ ⟨rfl, N_⟩; have m := M.out.join N_; clear N_; simp only [List.cons_append, List.nil_append, List.append_nil] at m; have M := Lib.hid m; clear m; rw [HP0.out])
    | (go_at_call 72; go_must (refine (BA.out _).mono ?_); rintro e w_ ⟨rfl, N_⟩; have m := M.out.join N_; clear N_; simp only [List.cons_append, List.nil_append, List.append_nil] at m; have M := Lib.hid m; clear m)
    )
  go_ret3
  exact ⟨rfl, M.out.take 0⟩
set_option maxRecDepth 100000 in
set_option maxHeartbeats 2000000 in
theorem WorthOn_any (D : Nat) (d1 : D ≤ 200) :
    Calls Try.prog 21 #[.slice A xs.length n, .int .i64 k, .int .i64 D] w fun e w' => e = .returned (.tuple #[.int .i64 (xs[k].worth D), .int .i64 0]) ∧ Mem w w' [] := by
  have M := Lib.hid (Mem.start w)
  obtain ⟨hf, h6⟩ := plotsOk_iff.1 hok
  have PC := Lib.hid (fun b w hs => plotsCode_any A n xs hx (by omega) b w hs)
  have HP0 := Lib.hid (plCode_ok hok)
  have BA := Lib.hid (fun w => worth_any xs[k] (hf _ (List.getElem_mem hk)) D (by omega) (by omega) w)
  have HS := Lib.hid hs
  have q1 := Lib.hid (inB_iff.2 ⟨by omega, by omega⟩ : inB (k : Int) 0 ((xs.length : Int) - 1) = true)
  have q2 := Lib.hid (inB_iff.2 ⟨by omega, by omega⟩ : inB (D : Int) 0 200 = true)
  obtain ⟨b, off, rfl, hr⟩ := hs.2 (by omega)
  have R := Lib.hid (range_at Plot.vl hr (List.getElem?_eq_getElem hk))
  have i0 : (0 : Int) ≤ (k : Int) := by omega
  have i1 : (k : Int) < (xs.length : Int) := by omega
  clear hr hs hf hok hx
  go_enter Try.func21, Try.ntmps21
  go_wp2_with (first
    | ((with_reducible refine gate_dst (N := 24) rfl ?_); go_must (refine ev_ldr _ _ rfl rfl (M.out.argR R.out) Try.underlying40 rfl (by first | exact sz40 | (rw [S1.out]; exact sz40)) rfl ?_))
    | (go_at_call 68; go_must (refine (isPlot_any _ _ _ (by omega) _ _).mono ?_); rintro e w_ ⟨rfl, rfl⟩; rw [q1.out])
    | (go_at_call 66; go_must (refine (within_any _ _ _ _).mono ?_); rintro e w_ ⟨rfl, rfl⟩; rw [q2.out])
    | (go_at_call 53; go_must (refine (PC.out _ _ (M.out.sl HS.out)).mono ?_); rintro e w_ ⟨rfl, N_⟩; have m := M.out.join N_; clear N_; simp only [List.cons_append, List.nil_append, List.append_nil] at m; have M := Lib.hid m; clear m; rw [HP0.out])
    | (go_at_call 60; go_must (refine (BA.out _).mono ?_); rintro e w_ ⟨rfl, N_⟩; have m := M.out.join N_; clear N_; simp only [List.cons_append, List.nil_append, List.append_nil] at m; have M := Lib.hid m; clear m)
    )
  go_ret2
  exact ⟨rfl, M.out.take 0⟩
end
set_option maxRecDepth 100000 in
set_option maxHeartbeats 2000000 in
theorem WorthBound_any (A : Option Addr) (n : Nat) (xs : List Plot) (hx : ∀ x ∈ xs, x.ok) (hok : plotsOk xs = true) (w : World) (hs : Sl w 4 A xs.length (flat Plot.vals xs)) (D : Nat) (d0 : 1 ≤ D) (d1 : D ≤ 20) :
    Calls Try.prog 13 #[.slice A xs.length n, .int .i64 D] w fun e w' => e = .returned (.tuple #[.int .i64 (boundOf xs D), .int .i64 0]) ∧ Mem w w' [] := by
  have M := Lib.hid (Mem.start w)
  obtain ⟨hf, h6⟩ := plotsOk_iff.1 hok
  have PC := Lib.hid (fun b w hs => plotsCode_any A n xs hx (by omega) b w hs)
  have HP0 := Lib.hid (plCode_ok hok)
  have BA := Lib.hid (fun k (hk : k < xs.length) w => best_any xs[k] (hf _ (List.getElem_mem hk)) D d0 d1 w)
  have HS := Lib.hid hs
  have HB := Lib.hid (show boundOf xs D = sumTo (topAt xs D) xs.length from rfl)
  have HT := Lib.hid (fun i => show 0 ≤ topAt xs D i ∧ topAt xs D i ≤ 1000 from by
    unfold topAt
    split
    · next x hx' => exact topTo_b (hf _ (List.mem_of_getElem? hx')) D
    · exact ⟨by omega, by omega⟩)
  have q2 := Lib.hid (inB_iff.2 ⟨by omega, by omega⟩ : inB (D : Int) 1 20 = true)
  clear hs hf hok hx
  go_enter Try.func13, Try.ntmps13
  go_wp2_with (first
    | (go_at_call 55; go_must (refine (areDays_any _ _).mono ?_); rintro e w_ ⟨rfl, rfl⟩; rw [q2.out])
    | (go_at_call 53; go_must (refine (PC.out _ _ (M.out.sl HS.out)).mono ?_); rintro e w_ ⟨rfl, N_⟩; have m := M.out.join N_; clear N_; simp only [List.cons_append, List.nil_append, List.append_nil] at m; have M := Lib.hid m; clear m; rw [HP0.out])
    )
  go_loopw [7, 21] (fun s v wr => ∃ k : Nat, k ≤ xs.length ∧ v = .int .i64 k ∧ s = .int .i64 (sumTo (topAt xs D) k) ∧ Mem w wr [])
    (fun _ v _ => xs.length - (intOf v).toNat)
  case atStart => exact ⟨0, by omega, rfl, rfl, M.out⟩
  case round =>
    clear M
    obtain ⟨k, hk, rfl, rfl, m⟩ := hrel
    have M := Lib.hid m
    clear m
    by_cases hlt : k < xs.length
    · obtain ⟨b, off, rfl, hr⟩ := (M.out.sl HS.out).2 (by omega)
      have R := Lib.hid (range_at Plot.vl hr (List.getElem?_eq_getElem hlt))
      have i0 : (0 : Int) ≤ (k : Int) := by omega
      have i1 : (k : Int) < (xs.length : Int) := by omega
      have HTK := Lib.hid (show (bestD xs[k] D).2 = topAt xs D k by rw [bestD_top, topAt_at hlt])
      have HSU := Lib.hid (show sumTo (topAt xs D) (k + 1) = sumTo (topAt xs D) k + topAt xs D k from rfl)
      have sb := sumTo_b HT.out k
      have tb := HT.out k
      have e1 : IntKind.i64.wrap (sumTo (topAt xs D) k + topAt xs D k) = sumTo (topAt xs D) k + topAt xs D k := IntWalk.i64_in _ (by omega)
      have BK := Lib.hid (BA.out k hlt)
      have BK2 := BK.out
      rw [HTK.out] at BK2
      have BK3 := Lib.hid BK2
      clear hr BK2
      go_wp2_with (first
        | ((with_reducible refine gate_dst (N := 24) rfl ?_); go_must (refine ev_ldr _ _ rfl rfl (R.out) Try.underlying40 rfl (by first | exact sz40 | (rw [S1.out]; exact sz40)) rfl ?_))
        | ((with_reducible refine gate_dst (N := 9) rfl ?_); go_must (refine M.out.ev_new rfl (by first | (go_simp; done) | (go_simp; rfl)) ?_); intro g9 w9 m; simp only [List.cons_append, List.nil_append] at m; have M := Lib.hid m; clear m)
        | ((with_reducible refine gate_store (x := .tmp 9) rfl ?_); go_must (refine M.out.ev_stw 0 _ _ _ rfl rfl rfl rfl _ rfl (by first | rfl | (simp only [S1.out]; rfl) | (simp only [S1.out, S2.out]; rfl) | (simp only [S3.out]; rfl) | (simp only [S1.out, S2.out, S3.out]; rfl)) (by first | exact sz40 | (rw [S1.out]; exact sz40) | (rw [S2.out]; exact sz40) | (rw [S3.out]; exact sz40)) (by first | exact ints_one _ _ | exact Fld.one _ | exact O1.out | exact Plot.one _ | rfl | (simp [Value.oneCell']; done)) rfl ?_); intro wn m; simp only [List.set_cons_succ, List.set_cons_zero, List.setIfInBounds_toArray] at m; have M := Lib.hid m; clear m)
        | ((with_reducible refine gate_dst (N := 26) rfl ?_); go_must (refine M.out.ev_ldw 0 _ _ rfl rfl rfl Try.underlying40 rfl (by first | exact sz40 | (rw [S1.out]; exact sz40) | (rw [S2.out]; exact sz40) | (rw [S3.out]; exact sz40)) rfl ?_))
        | (go_at_call 64; go_must (refine (BK3.out _).mono ?_); rintro e w_ ⟨rfl, N_⟩; have m := M.out.join N_; clear N_; simp only [List.cons_append, List.nil_append, List.append_nil] at m; have M := Lib.hid m; clear m)
        )
      exact ⟨⟨k + 1, by omega, by go_num, by rw [HSU.out], M.out.take 0⟩, by simp [intOf]; omega⟩
    · obtain rfl : k = xs.length := by omega
      go_wp2
      go_ret2
      exact ⟨by rw [HB.out]; rfl, M.out.take 0⟩
end Go.Proofs.Ytdnofkngljjbmaa
