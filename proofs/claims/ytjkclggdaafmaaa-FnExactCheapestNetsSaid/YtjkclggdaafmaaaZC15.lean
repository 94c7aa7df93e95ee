/- Texts of a proof, laid together: Look. -/
import Derived.Test.YtjkclggdaafmaaaZC14
namespace Go.Proofs.Ytjkclggdaafmaaa
set_option linter.unusedSimpArgs false
set_option linter.unusedVariables false
open Go.RowKit
attribute [local go_sem] cell?_mk frozen?_mk
--ONES exact Cs.one _ | exact Net.one _ | exact Prices.one _ | exact covVals_one _ _
set_option maxRecDepth 100000 in
set_option maxHeartbeats 8000000 in
theorem look_step (F : Fld) (hv : F.valid = true) (p : Prices) (hg : p.good = true) (T : Cs) (sb bm B base : Nat) (hB : B ≤ 20000) (hbs : base ≤ sb) (m : Nat)
    (ih : ∀ (left : Cs) (ns : List Net) (n : Nat) (c : Int) (s : Sk) (bv : Value) (A : Option Addr) (cap : Nat) (w : World), LkIn F p T sb bm B base m left ns n c s bv A cap w →
      Calls Try.prog 48 #[.pointer (some ⟨sb, 0, none⟩), .agg left.cells, .slice A n cap, .int .i64 c] w (RetLook w base sb bm B (seek F p B m left ns c s)))
    (left : Cs) (ns : List Net) (n : Nat) (c : Int) (s : Sk) (bv : Value) (A : Option Addr) (cap : Nat) (w : World) (h : LkIn F p T sb bm B base (m + 1) left ns n c s bv A cap w) :
    Calls Try.prog 48 #[.pointer (some ⟨sb, 0, none⟩), .agg left.cells, .slice A n cap, .int .i64 c] w (RetLook w base sb bm B (seek F p B (m + 1) left ns c s)) := by
    have IH := Lib.hid ih
    clear ih
    have M := Lib.hid (Mem.start w)
    have H := Lib.hid h
    have HB := Lib.hid h.bk
    have hsb := h.bk.lt
    have O1 := Lib.hid (Cs.one left)
    have hlen := h.len
    subst hlen
    have heq := eqCs left Cs.z
    change ∀ w, (binOp .eql 39 (.agg left.cells) (.agg #[.int .u64 0, .int .u64 0])).run Try.prog w = _ at heq
    by_cases hz : left = Cs.z
    · subst hz
      rw [show Cs.z.same Cs.z = true from Cs.same_iff.2 rfl] at heq
      have HR := Lib.hid (show seek F p B (m + 1) Cs.z ns c s = (true, ⟨s.tries, c, ns⟩) by rw [seek, if_pos z_all])
      clear h
      go_enter Try.func48, Try.ntmps48
      go_wp2_with (first
        | ((with_reducible refine gate_dst (N := 5) rfl ?_); go_must (refine M.out.ev_new rfl (by first | (go_simp; done) | (go_simp; rfl)) ?_); intro g5 w5 m; simp only [List.cons_append, List.nil_append] at m; have M := Lib.hid m; clear m; try have q1_6 := M.out.cell (j := 6) 1 rfl (by first | assumption | rfl))
        | ((with_reducible refine gate_dst (N := 11) rfl ?_); go_must (refine M.out.ev_ldw 0 _ _ rfl rfl rfl Try.underlying39 rfl (by first | exact sz39 | (rw [S1.out]; exact sz39) | (rw [S2.out]; exact sz39) | (rw [S3.out]; exact sz39)) rfl ?_))
        | ((with_reducible refine gate_dst (N := 27) rfl ?_); go_must (refine M.out.ev_ldw 0 _ _ rfl rfl rfl Try.underlying39 rfl (by first | exact sz39 | (rw [S1.out]; exact sz39) | (rw [S2.out]; exact sz39) | (rw [S3.out]; exact sz39)) rfl ?_))
        | ((with_reducible refine gate_dst (N := 10) rfl ?_); go_must (refine M.out.ev_new rfl (by first | (go_simp; done) | (go_simp; rfl)) ?_); intro g10 w10 m; simp only [List.cons_append, List.nil_append] at m; have M := Lib.hid m; clear m; try have q1_6 := M.out.cell (j := 6) 1 rfl (by first | assumption | rfl))
        | ((with_reducible refine gate_store (x := .tmp 10) rfl ?_); go_must (refine M.out.ev_stw 1 _ _ _ rfl rfl rfl rfl _ rfl (by first | rfl | (simp only [S1.out]; rfl) | (simp only [S1.out, S2.out]; rfl) | (simp only [S3.out]; rfl) | (simp only [S1.out, S2.out, S3.out]; rfl)) (by first | exact sz99 | (rw [S1.out]; exact sz99) | (rw [S2.out]; exact sz99) | (rw [S3.out]; exact sz99)) (by first | exact ints_one _ _ | exact Fld.one _ | exact O1.out | exact Cs.one _ | exact Net.one _ | exact Prices.one _ | exact covVals_one _ _ | rfl | (simp [Value.oneCell']; done)) rfl ?_); intro wn m; simp only [List.set_cons_succ, List.set_cons_zero, List.setIfInBounds_toArray] at m; have M := Lib.hid m; clear m; try have q1_6 := M.out.cell (j := 6) 1 rfl (by first | assumption | rfl))
        | ((with_reducible refine gate_dst (N := 70) rfl ?_); go_must (refine M.out.ev_ldw 0 _ _ rfl rfl rfl Try.underlying39 rfl (by first | exact sz39 | (rw [S1.out]; exact sz39) | (rw [S2.out]; exact sz39) | (rw [S3.out]; exact sz39)) rfl ?_))
        | ((with_reducible refine gate_dst (N := 72) rfl ?_); go_must (refine M.out.ev_ldm 1 _ _ rfl rfl rfl _ _ (by first | exact Fld.cellsK LF.out | exact Fld.cellsS LF.out | assumption) Try.underlying39 rfl (by first | (rw [List.length_map, LF.out.kl]; exact sz39) | (rw [List.length_map, LF.out.sl]; exact sz39) | exact sz39) rfl ?_))
        | ((with_reducible refine gate_dst (N := 77) rfl ?_); go_must (refine M.out.ev_ldm 1 _ _ rfl rfl rfl _ _ (by first | exact Fld.cellsK LF.out | exact Fld.cellsS LF.out | assumption) Try.underlying65 rfl (by first | (rw [List.length_map, LF.out.kl]; exact sz65) | (rw [List.length_map, LF.out.sl]; exact sz65) | exact sz65) rfl ?_))
        | ((with_reducible refine gate_dst (N := 82) rfl ?_); go_must (refine M.out.ev_ld 1 _ _ rfl rfl rfl Try.underlying2 rfl rfl (by first | assumption | rfl) ?_))
        | (go_at_call 83; go_must (refine (cloneNet_any A cap ns (by have := H.out.nl; omega) H.out.room H.out.empt _ (M.out.sl (H.out.sl _ (Oth.refl _ _)))).mono ?_); rintro e w_ ⟨A_, c_, rfl, hc_, N_⟩; have m := M.out.join N_; clear N_; simp only [List.cons_append, List.nil_append, List.append_nil] at m; have M := Lib.hid m; clear m)
        | ((with_reducible refine gate_store (x := .tmp 20) rfl ?_); go_must (refine M.out.ev_poke _ _ _ rfl rfl HB.out rfl _ rfl (by simp [shc]) sz32 rfl rfl ?_); intro v20 w20 m ho20 hb20; have M := Lib.hid m; clear m; have HO20 := Lib.hid ho20; have HB20 := Lib.hid hb20; clear ho20 hb20)
        | ((with_reducible refine gate_store (x := .tmp 22) rfl ?_); go_must (refine M.out.ev_poke _ _ _ rfl rfl HB20.out rfl _ rfl (by simp [shc]) sz2 rfl rfl ?_); intro v22 w22 m ho22 hb22; have M := Lib.hid m; clear m; have HO22 := Lib.hid ho22; have HB22 := Lib.hid hb22; clear ho22 hb22)
        )
      go_ret
      rw [HR.out]
      have hrow := M.out.row 1 rfl
      have hs22 := HO22.out.size
      have hs20 := HO20.out.size
      have hs0 := M.out.size
      refine ⟨_, rfl, HO20.out.trans (HO22.out.trans (M.out.oth sb)), M.out.arg HB22.out, fun e => ?_, Ent.holds.lower (x := .row _ _ _ _ _) hrow (by omega)⟩
      have := ((M.out.all 1 _ rfl).lt e).1
      omega
    · rw [show left.same Cs.z = false by rw [← Bool.not_eq_true, Cs.same_iff]; exact hz] at heq
      obtain ⟨r, hall⟩ := h.first hz
      have hk : firstOf left ∈ left.all := by rw [hall]; simp
      have hk1 := (mem_all.1 hk).1
      have hla : left.all.length ≤ 100 := left.below_len 100
      have hzl : ¬ (left.all.length = 0) := by rw [hall]; simp
      have hzi : (0 : Int) < (left.all.length : Int) := by omega
      have hzn : 0 < left.all.length := by omega
      have HALL := Lib.hid hall
      obtain ⟨A0, c0, hsh⟩ := h.shop _ (h.sub _ hk)
      have HSH := Lib.hid hsh
      have hlok := h.ok
      have hnl := netsAt_len hv hk1
      have HNZ := Lib.hid (show left.all ≠ [] by rw [hall]; simp)
      have HZ := Lib.hid hz
      obtain ⟨L, hL⟩ : ∃ L, L = netsAt F (firstOf left) := ⟨_, rfl⟩
      obtain ⟨R, hR⟩ : ∃ R, R = seek F p B (m + 1) left ns c s := ⟨_, rfl⟩
      have HR := Lib.hid (show skIn p B (seek F p B m) left ns c L s = R by rw [hR, hL, seek, if_neg HNZ.out])
      have HL := Lib.hid hL
      have HC0 := Lib.hid h.c0
      have HC1 := Lib.hid h.c1
      obtain ⟨k, hkk⟩ : ∃ k, k = firstOf left := ⟨_, rfl⟩
      rw [← hL] at HSH hnl
      rw [← hkk] at HALL HSH hk1
      rw [← hR]
      have HKK := Lib.hid hkk
      clear h hall hk hsh hz hR hL hkk
      go_enter Try.func48, Try.ntmps48
      go_wp2_with (first
        | ((with_reducible refine gate_dst (N := 5) rfl ?_); go_must (refine M.out.ev_new rfl (by first | (go_simp; done) | (go_simp; rfl)) ?_); intro g5 w5 m; simp only [List.cons_append, List.nil_append] at m; have M := Lib.hid m; clear m; try have q1_6 := M.out.cell (j := 6) 1 rfl (by first | assumption | rfl))
        | ((with_reducible refine gate_dst (N := 11) rfl ?_); go_must (refine M.out.ev_ldw 0 _ _ rfl rfl rfl Try.underlying39 rfl (by first | exact sz39 | (rw [S1.out]; exact sz39) | (rw [S2.out]; exact sz39) | (rw [S3.out]; exact sz39)) rfl ?_))
        | ((with_reducible refine gate_dst (N := 27) rfl ?_); go_must (refine M.out.ev_ldw 0 _ _ rfl rfl rfl Try.underlying39 rfl (by first | exact sz39 | (rw [S1.out]; exact sz39) | (rw [S2.out]; exact sz39) | (rw [S3.out]; exact sz39)) rfl ?_))
        | ((with_reducible refine gate_dst (N := 10) rfl ?_); go_must (refine M.out.ev_new rfl (by first | (go_simp; done) | (go_simp; rfl)) ?_); intro g10 w10 m; simp only [List.cons_append, List.nil_append] at m; have M := Lib.hid m; clear m; try have q1_6 := M.out.cell (j := 6) 1 rfl (by first | assumption | rfl))
        | ((with_reducible refine gate_store (x := .tmp 10) rfl ?_); go_must (refine M.out.ev_stw 1 _ _ _ rfl rfl rfl rfl _ rfl (by first | rfl | (simp only [S1.out]; rfl) | (simp only [S1.out, S2.out]; rfl) | (simp only [S3.out]; rfl) | (simp only [S1.out, S2.out, S3.out]; rfl)) (by first | exact sz99 | (rw [S1.out]; exact sz99) | (rw [S2.out]; exact sz99) | (rw [S3.out]; exact sz99)) (by first | exact ints_one _ _ | exact Fld.one _ | exact O1.out | exact Cs.one _ | exact Net.one _ | exact Prices.one _ | exact covVals_one _ _ | rfl | (simp [Value.oneCell']; done)) rfl ?_); intro wn m; simp only [List.set_cons_succ, List.set_cons_zero, List.setIfInBounds_toArray] at m; have M := Lib.hid m; clear m; try have q1_6 := M.out.cell (j := 6) 1 rfl (by first | assumption | rfl))
        | ((with_reducible refine gate_dst (N := 70) rfl ?_); go_must (refine M.out.ev_ldw 0 _ _ rfl rfl rfl Try.underlying39 rfl (by first | exact sz39 | (rw [S1.out]; exact sz39) | (rw [S2.out]; exact sz39) | (rw [S3.out]; exact sz39)) rfl ?_))
        | ((with_reducible refine gate_dst (N := 72) rfl ?_); go_must (refine M.out.ev_ldm 1 _ _ rfl rfl rfl _ _ (by first | exact Fld.cellsK LF.out | exact Fld.cellsS LF.out | assumption) Try.underlying39 rfl (by first | (rw [List.length_map, LF.out.kl]; exact sz39) | (rw [List.length_map, LF.out.sl]; exact sz39) | exact sz39) rfl ?_))
        | ((with_reducible refine gate_dst (N := 77) rfl ?_); go_must (refine M.out.ev_ldm 1 _ _ rfl rfl rfl _ _ (by first | exact Fld.cellsK LF.out | exact Fld.cellsS LF.out | assumption) Try.underlying65 rfl (by first | (rw [List.length_map, LF.out.kl]; exact sz65) | (rw [List.length_map, LF.out.sl]; exact sz65) | exact sz65) rfl ?_))
        | ((with_reducible refine gate_dst (N := 82) rfl ?_); go_must (refine M.out.ev_ld 1 _ _ rfl rfl rfl Try.underlying2 rfl rfl (by first | assumption | rfl) ?_))
        )
      refine region_anyH (fun w' => Mem w w' [.blk g5 39 left.cells]) (by kernel_rfl) ?_
      have m := M.out.drew
      clear M
      have M := Lib.hid m
      clear m
      apply takeH (i := 0) 23 rfl (by kernel_rfl) (by kernel_rfl) (by kernel_rfl) (fun _ _ _ h => h) rfl (by first | exact M.out | exact M.out.take 1)
      case' hy =>
        refine Or.inl ⟨by first | rfl | (go_simp; done), ?_⟩
        intro w hS
        clear hS
        go_simp
        try with_reducible rfl
      try simp only [Act.put, List.getElem_toArray, List.getElem_cons_succ, List.getElem_cons_zero, List.setIfInBounds_toArray, List.set_cons_succ, List.set_cons_zero]
      apply takeH (i := 1) 24 rfl (by kernel_rfl) (by kernel_rfl) (by kernel_rfl) (fun _ _ _ h => h) rfl (by first | exact M.out | exact M.out.take 1)
      case' hy =>
        refine Or.inl ⟨by first | rfl | (go_simp; done), ?_⟩
        intro w hS
        clear hS
        go_simp
        try with_reducible rfl
      try simp only [Act.put, List.getElem_toArray, List.getElem_cons_succ, List.getElem_cons_zero, List.setIfInBounds_toArray, List.set_cons_succ, List.set_cons_zero]
      apply takeH (i := 2) 25 rfl (by kernel_rfl) (by kernel_rfl) (by kernel_rfl) (fun _ _ _ h => h) rfl (by first | exact M.out | exact M.out.take 1)
      case' hy =>
        refine Or.inl ⟨by first | rfl | (go_simp; done), ?_⟩
        intro w hS
        clear hS
        go_simp
        try with_reducible rfl
      try simp only [Act.put, List.getElem_toArray, List.getElem_cons_succ, List.getElem_cons_zero, List.setIfInBounds_toArray, List.set_cons_succ, List.set_cons_zero]
      apply takeH (i := 3) 26 rfl (by kernel_rfl) (by kernel_rfl) (by kernel_rfl) (fun _ _ _ h => h) rfl (by first | exact M.out | exact M.out.take 1)
      case' hy => exact ylds _ _ rfl rfl Try.underlying91 rfl rfl (fun w' hS => (hS.arg HB.out).cellv (i := 0) (v := .map (some bm)) rfl)
      try simp only [Act.put, List.getElem_toArray, List.getElem_cons_succ, List.getElem_cons_zero, List.setIfInBounds_toArray, List.set_cons_succ, List.set_cons_zero]
      apply takeH (i := 4) 27 rfl (by kernel_rfl) (by kernel_rfl) (by kernel_rfl) (fun _ _ _ h => h) rfl (by first | exact M.out | exact M.out.take 1)
      case' hy => exact yldw _ _ rfl rfl Try.underlying39 rfl (by first | exact sz39 | (rw [S1.out]; exact sz39) | (rw [S2.out]; exact sz39) | (rw [S3.out]; exact sz39)) rfl (fun w' hS => hS.blk 0 rfl)
      try simp only [Act.put, List.getElem_toArray, List.getElem_cons_succ, List.getElem_cons_zero, List.setIfInBounds_toArray, List.set_cons_succ, List.set_cons_zero]
      apply takeH (i := 10) 33 rfl (by kernel_rfl) (by kernel_rfl) (by kernel_rfl) (fun _ _ _ h => h) rfl (by first | exact M.out | exact M.out.take 1)
      case' hy =>
        refine Or.inl ⟨by first | rfl | (go_simp; done), ?_⟩
        intro w hS
        clear hS
        go_simp
        try with_reducible rfl
      try simp only [Act.put, List.getElem_toArray, List.getElem_cons_succ, List.getElem_cons_zero, List.setIfInBounds_toArray, List.set_cons_succ, List.set_cons_zero]
      refine any1H 5 (by kernel_rfl) rfl (fun K hK => ?_)
      go_wp2_with (first | ((with_reducible refine gate_dst (N := 27) rfl ?_); go_must (refine M.out.ev_ldw 0 _ _ rfl rfl rfl Try.underlying39 rfl (by first | exact sz39 | (rw [S1.out]; exact sz39) | (rw [S2.out]; exact sz39) | (rw [S3.out]; exact sz39)) rfl ?_)) | (go_at_call 44; go_must (refine (ListOf_any _ hlok _).mono ?_); rintro e w_ ⟨A_, c_, rfl, hc_, N_⟩; have m := M.out.join N_; clear N_; simp only [List.cons_append, List.nil_append, List.append_nil] at m; have M := Lib.hid m; clear m; obtain ⟨b, off, rfl, hrg⟩ := (M.out.slof 1 rfl).2 (by omega); have x0 : w_.cell? ⟨b, off, none⟩ = some (.int .i64 (k : Int)) := (by have R := range_at one64_len hrg (k := 0) (by rw [HALL.out]; rfl); simpa [nat64] using R 0 _ rfl); clear hrg) | ((with_reducible refine gate_dst (N := 31) rfl ?_); go_must (refine ev_look (HSH.out _ (M.out.oth sb)).1 rfl _ _ rfl rfl rfl ?_)))
      refine onward_normal (hK _ _ ⟨(by first | exact M.out | exact M.out.take 1), ?_⟩)
      clear hK K
      try simp only [Act.put, List.getElem_toArray, List.getElem_cons_succ, List.getElem_cons_zero, List.setIfInBounds_toArray, List.set_cons_succ, List.set_cons_zero]
      apply takeH (i := 6) 29 rfl (by kernel_rfl) (by kernel_rfl) (by kernel_rfl) (fun _ _ _ h => h) rfl (by first | exact M.out | exact M.out.take 1)
      case' hy =>
        refine Or.inl ⟨by first | rfl | (go_simp; done), ?_⟩
        intro w hS
        clear hS
        go_simp
        try with_reducible rfl
      try simp only [Act.put, List.getElem_toArray, List.getElem_cons_succ, List.getElem_cons_zero, List.setIfInBounds_toArray, List.set_cons_succ, List.set_cons_zero]
      refine any1H 7 (by kernel_rfl) rfl (fun K hK => ?_)
      go_wp2_with (first | ((with_reducible refine gate_dst (N := 27) rfl ?_); go_must (refine M.out.ev_ldw 0 _ _ rfl rfl rfl Try.underlying39 rfl (by first | exact sz39 | (rw [S1.out]; exact sz39) | (rw [S2.out]; exact sz39) | (rw [S3.out]; exact sz39)) rfl ?_)) | (go_at_call 44; go_must (refine (ListOf_any _ hlok _).mono ?_); rintro e w_ ⟨A_, c_, rfl, hc_, N_⟩; have m := M.out.join N_; clear N_; simp only [List.cons_append, List.nil_append, List.append_nil] at m; have M := Lib.hid m; clear m; obtain ⟨b, off, rfl, hrg⟩ := (M.out.slof 1 rfl).2 (by omega); have x0 : w_.cell? ⟨b, off, none⟩ = some (.int .i64 (k : Int)) := (by have R := range_at one64_len hrg (k := 0) (by rw [HALL.out]; rfl); simpa [nat64] using R 0 _ rfl); clear hrg) | ((with_reducible refine gate_dst (N := 31) rfl ?_); go_must (refine ev_look (HSH.out _ (M.out.oth sb)).1 rfl _ _ rfl rfl rfl ?_)))
      refine onward_normal (hK _ _ ⟨(by first | exact M.out | exact M.out.take 1), ?_⟩)
      clear hK K
      try simp only [Act.put, List.getElem_toArray, List.getElem_cons_succ, List.getElem_cons_zero, List.setIfInBounds_toArray, List.set_cons_succ, List.set_cons_zero]
      refine any1H 8 (by kernel_rfl) rfl (fun K hK => ?_)
      go_wp2_with (first | ((with_reducible refine gate_dst (N := 27) rfl ?_); go_must (refine M.out.ev_ldw 0 _ _ rfl rfl rfl Try.underlying39 rfl (by first | exact sz39 | (rw [S1.out]; exact sz39) | (rw [S2.out]; exact sz39) | (rw [S3.out]; exact sz39)) rfl ?_)) | (go_at_call 44; go_must (refine (ListOf_any _ hlok _).mono ?_); rintro e w_ ⟨A_, c_, rfl, hc_, N_⟩; have m := M.out.join N_; clear N_; simp only [List.cons_append, List.nil_append, List.append_nil] at m; have M := Lib.hid m; clear m; obtain ⟨b, off, rfl, hrg⟩ := (M.out.slof 1 rfl).2 (by omega); have x0 : w_.cell? ⟨b, off, none⟩ = some (.int .i64 (k : Int)) := (by have R := range_at one64_len hrg (k := 0) (by rw [HALL.out]; rfl); simpa [nat64] using R 0 _ rfl); clear hrg) | ((with_reducible refine gate_dst (N := 31) rfl ?_); go_must (refine ev_look (HSH.out _ (M.out.oth sb)).1 rfl _ _ rfl rfl rfl ?_)))
      refine onward_normal (hK _ _ ⟨(by first | exact M.out | exact M.out.take 1), ?_⟩)
      clear hK K
      try simp only [Act.put, List.getElem_toArray, List.getElem_cons_succ, List.getElem_cons_zero, List.setIfInBounds_toArray, List.set_cons_succ, List.set_cons_zero]
      apply takeH (i := 9) 32 rfl (by kernel_rfl) (by kernel_rfl) (by kernel_rfl) (fun _ _ _ h => h) rfl (by first | exact M.out | exact M.out.take 1)
      case' hy =>
        refine Or.inl ⟨by first | rfl | (go_simp; done), ?_⟩
        intro w hS
        clear hS
        go_simp
        try with_reducible rfl
      try simp only [Act.put, List.getElem_toArray, List.getElem_cons_succ, List.getElem_cons_zero, List.setIfInBounds_toArray, List.set_cons_succ, List.set_cons_zero]
      refine wpAnyH_done (by kernel_rfl) ?_ _
      go_wp2
      have hg5 : g5 ≠ sb := by
        have := M.out.base 0 rfl
        omega
      have HG5 := Lib.hid hg5
      clear x0 heq
      go_loopw [33] (fun x wr => ∃ (i : Nat) (s' : Sk) (bv' : Value), i ≤ L.length ∧ x = .int .i64 i ∧ Oth sb w wr ∧ Blk wr g5 39 left.cells ∧ Blk wr sb 93 (shc bm B bv' s') ∧ Best base sb wr bv' s' ∧ s'.tries ≤ B ∧ skIn p B (seek F p B m) left ns c (L.drop i) s' = R)
        (fun x _ => L.length - (intOf x).toNat)
      case atStart => exact ⟨0, s, bv, by omega, rfl, M.out.oth sb, M.out.blk 0 rfl, M.out.arg HB.out, H.out.best.oth (M.out.oth sb), H.out.tr, by rw [List.drop_zero]; exact HR.out⟩
      case round =>
        clear M HB HR
        obtain ⟨i, s', bv', hi, rfl, hO, hb5, hbs', hbest, htr, hsk⟩ := hrel
        have M := Lib.hid (Mem.start wr)
        have HO := Lib.hid hO
        have HB5 := Lib.hid hb5
        have HB := Lib.hid hbs'
        have HBest := Lib.hid hbest
        have hsb' := hbs'.lt
        clear hO hb5 hbs' hbest
        by_cases hlt : i < L.length
        · obtain ⟨b, off, rfl, hr⟩ := (HSH.out _ HO.out).2.2 (by omega)
          have hxk : L[i]? = some L[i] := List.getElem?_eq_getElem hlt
          have R0 := Lib.hid (range_at (covVals_len p) hr hxk)
          have hdrop : L.drop i = L[i] :: L.drop (i + 1) := List.drop_eq_getElem_cons hlt
          have hmem : L[i] ∈ netsAt F (firstOf left) := by rw [← HL.out]; exact List.getElem_mem hlt
          obtain ⟨x, hx⟩ : ∃ x, x = L[i] := ⟨_, rfl⟩
          rw [← hx] at R0 hdrop hmem
          have HM := Lib.hid hmem
          rw [hdrop] at hsk
          have hcost := (costOk hg (Net.fits_plain (netsAt_fits hmem))).k
          have i0 : (0 : Int) ≤ (i : Int) := by omega
          have i1 : (i : Int) < (L.length : Int) := by omega
          have hc0 := HC0.out
          have hc1 := HC1.out
          obtain ⟨a, ha⟩ : ∃ a, a = netCost p x := ⟨_, rfl⟩
          have HA := Lib.hid ha
          rw [← ha] at hcost
          have w1 : IntKind.i64.wrap (c + a) = c + a := IntWalk.i64_in _ (by omega)
          have w2 : IntKind.i64.wrap ((s'.tries : Int) + 1) = ((s'.tries + 1 : Nat) : Int) := IntWalk.i64_in _ (by omega)
          have VC := Lib.hid (show (covVals p x).toArray[6]? = some (.int .i64 a) by rw [ha]; rfl)
          clear hr hxk hx hdrop hmem ha
          go_wp2_with (first
            | ((with_reducible refine gate_dst (N := 5) rfl ?_); go_must (refine M.out.ev_new rfl (by first | (go_simp; done) | (go_simp; rfl)) ?_); intro g5 w5 m; simp only [List.cons_append, List.nil_append] at m; have M := Lib.hid m; clear m; try have q0_6 := M.out.cell (j := 6) 0 rfl (by first | assumption | rfl))
            | ((with_reducible refine gate_dst (N := 11) rfl ?_); go_must (refine M.out.ev_ldw 0 _ _ rfl rfl rfl Try.underlying39 rfl (by first | exact sz39 | (rw [S1.out]; exact sz39) | (rw [S2.out]; exact sz39) | (rw [S3.out]; exact sz39)) rfl ?_))
            | ((with_reducible refine gate_dst (N := 27) rfl ?_); go_must (refine M.out.ev_ldw 0 _ _ rfl rfl rfl Try.underlying39 rfl (by first | exact sz39 | (rw [S1.out]; exact sz39) | (rw [S2.out]; exact sz39) | (rw [S3.out]; exact sz39)) rfl ?_))
            | ((with_reducible refine gate_dst (N := 10) rfl ?_); go_must (refine M.out.ev_new rfl (by first | (go_simp; done) | (go_simp; rfl)) ?_); intro g10 w10 m; simp only [List.cons_append, List.nil_append] at m; have M := Lib.hid m; clear m; try have q0_6 := M.out.cell (j := 6) 0 rfl (by first | assumption | rfl))
            | ((with_reducible refine gate_store (x := .tmp 10) rfl ?_); go_must (refine M.out.ev_stw 0 _ _ _ rfl rfl rfl rfl _ rfl (by first | rfl | (simp only [S1.out]; rfl) | (simp only [S1.out, S2.out]; rfl) | (simp only [S3.out]; rfl) | (simp only [S1.out, S2.out, S3.out]; rfl)) (by first | exact sz99 | (rw [S1.out]; exact sz99) | (rw [S2.out]; exact sz99) | (rw [S3.out]; exact sz99)) (by first | exact ints_one _ _ | exact Fld.one _ | exact O1.out | exact Cs.one _ | exact Net.one _ | exact Prices.one _ | exact covVals_one _ _ | rfl | (simp [Value.oneCell']; done)) rfl ?_); intro wn m; simp only [List.set_cons_succ, List.set_cons_zero, List.setIfInBounds_toArray] at m; have M := Lib.hid m; clear m; try have q0_6 := M.out.cell (j := 6) 0 rfl (by first | assumption | rfl))
            | ((with_reducible refine gate_dst (N := 70) rfl ?_); go_must (refine M.out.ev_ldw 0 _ _ rfl rfl rfl Try.underlying39 rfl (by first | exact sz39 | (rw [S1.out]; exact sz39) | (rw [S2.out]; exact sz39) | (rw [S3.out]; exact sz39)) rfl ?_))
            | ((with_reducible refine gate_dst (N := 72) rfl ?_); go_must (refine M.out.ev_ldm 0 _ _ rfl rfl rfl _ _ (by first | exact Fld.cellsK LF.out | exact Fld.cellsS LF.out | assumption) Try.underlying39 rfl (by first | (rw [List.length_map, LF.out.kl]; exact sz39) | (rw [List.length_map, LF.out.sl]; exact sz39) | exact sz39) rfl ?_))
            | ((with_reducible refine gate_dst (N := 77) rfl ?_); go_must (refine M.out.ev_ldm 0 _ _ rfl rfl rfl _ _ (by first | exact Fld.cellsK LF.out | exact Fld.cellsS LF.out | assumption) Try.underlying65 rfl (by first | (rw [List.length_map, LF.out.kl]; exact sz65) | (rw [List.length_map, LF.out.sl]; exact sz65) | exact sz65) rfl ?_))
            | ((with_reducible refine gate_dst (N := 82) rfl ?_); go_must (refine M.out.ev_ld 0 _ _ rfl rfl rfl Try.underlying2 rfl rfl (by first | assumption | rfl) ?_))
            | ((with_reducible refine gate_dst (N := 36) rfl ?_); go_must (refine ev_ldr _ _ rfl rfl (R0.out) Try.underlying99 rfl (by first | exact sz99 | (rw [S1.out]; exact sz99)) rfl ?_))
            )
          have hS10 := M.out
          by_cases q1 : 0 ≤ s'.least
          · have d1 : decide (0 ≤ s'.least) = true := decide_eq_true q1
            by_cases q2 : s'.least ≤ c + a
            · have d2 : decide (s'.least ≤ c + a) = true := decide_eq_true q2
              have HSK := Lib.hid (skIn_skip (p := p) (B := B) (r := L.drop (i + 1)) (rec := seek F p B m) (left := left) (ns := ns) q1 (by rw [← HA.out]; exact q2))
              refine region_anyH (fun w' => Mem wr w' [.blk g10 99 (covVals p x).toArray]) (by kernel_rfl) ?_
              have m := M.out.drew
              clear M
              have M := Lib.hid m
              clear m
              apply takeH (i := 0) 37 rfl (by kernel_rfl) (by kernel_rfl) (by kernel_rfl) (fun _ _ _ h => h) rfl (by first | exact M.out | exact M.out.take 1)
              case' hy =>
                refine Or.inl ⟨by first | rfl | (go_simp; done), ?_⟩
                intro w hS
                clear hS
                go_simp
                try with_reducible rfl
              try simp only [Act.put, List.getElem_toArray, List.getElem_cons_succ, List.getElem_cons_zero, List.setIfInBounds_toArray, List.set_cons_succ, List.set_cons_zero]
              apply takeH (i := 1) 38 rfl (by kernel_rfl) (by kernel_rfl) (by kernel_rfl) (fun _ _ _ h => h) rfl (by first | exact M.out | exact M.out.take 1)
              case' hy =>
                refine Or.inl ⟨by first | rfl | (go_simp; done), ?_⟩
                intro w hS
                clear hS
                go_simp
                try with_reducible rfl
              try simp only [Act.put, List.getElem_toArray, List.getElem_cons_succ, List.getElem_cons_zero, List.setIfInBounds_toArray, List.set_cons_succ, List.set_cons_zero]
              apply takeH (i := 2) 39 rfl (by kernel_rfl) (by kernel_rfl) (by kernel_rfl) (fun _ _ _ h => h) rfl (by first | exact M.out | exact M.out.take 1)
              case' hy =>
                refine Or.inl ⟨by first | rfl | (go_simp; done), ?_⟩
                intro w hS
                clear hS
                go_simp
                try with_reducible rfl
              try simp only [Act.put, List.getElem_toArray, List.getElem_cons_succ, List.getElem_cons_zero, List.setIfInBounds_toArray, List.set_cons_succ, List.set_cons_zero]
              apply takeH (i := 3) 40 rfl (by kernel_rfl) (by kernel_rfl) (by kernel_rfl) (fun _ _ _ h => h) rfl (by first | exact M.out | exact M.out.take 1)
              case' hy => exact ylds _ _ rfl rfl Try.underlying2 rfl rfl (fun w' hS => (hS.arg HB.out).cellv (i := 4) (v := .int .i64 s'.least) rfl)
              try simp only [Act.put, List.getElem_toArray, List.getElem_cons_succ, List.getElem_cons_zero, List.setIfInBounds_toArray, List.set_cons_succ, List.set_cons_zero]
              apply takeH (i := 4) 41 rfl (by kernel_rfl) (by kernel_rfl) (by kernel_rfl) (fun _ _ _ h => h) rfl (by first | exact M.out | exact M.out.take 1)
              case' hy =>
                refine Or.inl ⟨by first | rfl | (go_simp; done), ?_⟩
                intro w hS
                clear hS
                go_simp
                try with_reducible rfl
              try simp only [Act.put, List.getElem_toArray, List.getElem_cons_succ, List.getElem_cons_zero, List.setIfInBounds_toArray, List.set_cons_succ, List.set_cons_zero]
              apply takeH (i := 5) 42 rfl (by kernel_rfl) (by kernel_rfl) (by kernel_rfl) (fun _ _ _ h => h) rfl (by first | exact M.out | exact M.out.take 1)
              case' hy =>
                refine Or.inl ⟨by first | rfl | (go_simp; done), ?_⟩
                intro w hS
                clear hS
                go_simp
                try with_reducible rfl
              try simp only [Act.put, List.getElem_toArray, List.getElem_cons_succ, List.getElem_cons_zero, List.setIfInBounds_toArray, List.set_cons_succ, List.set_cons_zero]
              apply takeH (i := 6) 43 rfl (by kernel_rfl) (by kernel_rfl) (by kernel_rfl) (fun _ _ _ h => h) rfl (by first | exact M.out | exact M.out.take 1)
              case' hy =>
                refine Or.inl ⟨by first | rfl | (go_simp; done), ?_⟩
                intro w hS
                clear hS
                go_simp
                try with_reducible rfl
              try simp only [Act.put, List.getElem_toArray, List.getElem_cons_succ, List.getElem_cons_zero, List.setIfInBounds_toArray, List.set_cons_succ, List.set_cons_zero]
              apply takeH (i := 7) 44 rfl (by kernel_rfl) (by kernel_rfl) (by kernel_rfl) (fun _ _ _ h => h) rfl (by first | exact M.out | exact M.out.take 1)
              case' hy =>
                refine Or.inl ⟨by first | rfl | (go_simp; done), ?_⟩
                intro w hS
                clear hS
                go_simp
                try with_reducible rfl
              try simp only [Act.put, List.getElem_toArray, List.getElem_cons_succ, List.getElem_cons_zero, List.setIfInBounds_toArray, List.set_cons_succ, List.set_cons_zero]
              apply takeH (i := 8) 45 rfl (by kernel_rfl) (by kernel_rfl) (by kernel_rfl) (fun _ _ _ h => h) rfl (by first | exact M.out | exact M.out.take 1)
              case' hy => exact yldsW _ _ rfl (by first | rfl | (go_simp; done)) Try.underlying2 rfl rfl (fun w' hS => (hS.blk 0 rfl).cellv (i := 6) VC.out)
              try simp only [Act.put, List.getElem_toArray, List.getElem_cons_succ, List.getElem_cons_zero, List.setIfInBounds_toArray, List.set_cons_succ, List.set_cons_zero]
              apply takeH (i := 9) 46 rfl (by kernel_rfl) (by kernel_rfl) (by kernel_rfl) (fun _ _ _ h => h) rfl (by first | exact M.out | exact M.out.take 1)
              case' hy =>
                refine Or.inl ⟨by first | rfl | (go_simp; done), ?_⟩
                intro w hS
                clear hS
                go_simp
                try with_reducible rfl
              try simp only [Act.put, List.getElem_toArray, List.getElem_cons_succ, List.getElem_cons_zero, List.setIfInBounds_toArray, List.set_cons_succ, List.set_cons_zero]
              apply takeH (i := 10) 47 rfl (by kernel_rfl) (by kernel_rfl) (by kernel_rfl) (fun _ _ _ h => h) rfl (by first | exact M.out | exact M.out.take 1)
              case' hy =>
                refine Or.inl ⟨by first | rfl | (go_simp; done), ?_⟩
                intro w hS
                clear hS
                go_simp
                try with_reducible rfl
              try simp only [Act.put, List.getElem_toArray, List.getElem_cons_succ, List.getElem_cons_zero, List.setIfInBounds_toArray, List.set_cons_succ, List.set_cons_zero]
              apply takeH (i := 11) 48 rfl (by kernel_rfl) (by kernel_rfl) (by kernel_rfl) (fun _ _ _ h => h) rfl (by first | exact M.out | exact M.out.take 1)
              case' hy =>
                refine Or.inl ⟨by first | rfl | (go_simp; done), ?_⟩
                intro w hS
                clear hS
                go_simp
                try with_reducible rfl
              try simp only [Act.put, List.getElem_toArray, List.getElem_cons_succ, List.getElem_cons_zero, List.setIfInBounds_toArray, List.set_cons_succ, List.set_cons_zero]
              apply takeH (i := 12) 49 rfl (by kernel_rfl) (by kernel_rfl) (by kernel_rfl) (fun _ _ _ h => h) rfl (by first | exact M.out | exact M.out.take 1)
              case' hy =>
                refine Or.inl ⟨by first | rfl | (go_simp; done), ?_⟩
                intro w hS
                clear hS
                go_simp
                try with_reducible rfl
              try simp only [Act.put, List.getElem_toArray, List.getElem_cons_succ, List.getElem_cons_zero, List.setIfInBounds_toArray, List.set_cons_succ, List.set_cons_zero]
              apply takeH (i := 13) 50 rfl (by kernel_rfl) (by kernel_rfl) (by kernel_rfl) (fun _ _ _ h => h) rfl (by first | exact M.out | exact M.out.take 1)
              case' hy => exact yldsW _ _ rfl (by first | rfl | (go_simp; done)) Try.underlying2 rfl rfl (fun w' hS => (hS.arg HB.out).cellv (i := 4) (v := .int .i64 s'.least) rfl)
              try simp only [Act.put, List.getElem_toArray, List.getElem_cons_succ, List.getElem_cons_zero, List.setIfInBounds_toArray, List.set_cons_succ, List.set_cons_zero]
              apply takeH (i := 14) 51 rfl (by kernel_rfl) (by kernel_rfl) (by kernel_rfl) (fun _ _ _ h => h) rfl (by first | exact M.out | exact M.out.take 1)
              case' hy =>
                refine Or.inl ⟨by first | rfl | (go_simp; done), ?_⟩
                intro w hS
                clear hS
                go_simp
                try with_reducible rfl
              try simp only [Act.put, List.getElem_toArray, List.getElem_cons_succ, List.getElem_cons_zero, List.setIfInBounds_toArray, List.set_cons_succ, List.set_cons_zero]
              apply takeH (i := 15) 52 rfl (by kernel_rfl) (by kernel_rfl) (by kernel_rfl) (fun _ _ _ h => h) rfl (by first | exact M.out | exact M.out.take 1)
              case' hy =>
                refine Or.inl ⟨by first | rfl | (go_simp; done), ?_⟩
                intro w hS
                clear hS
                go_simp
                try with_reducible rfl
              try simp only [Act.put, List.getElem_toArray, List.getElem_cons_succ, List.getElem_cons_zero, List.setIfInBounds_toArray, List.set_cons_succ, List.set_cons_zero]
              refine wpAnyH_done (by kernel_rfl) ?_ _
              go_wp2
              exact ⟨⟨i + 1, s', bv', by omega, by go_num, HO.out.trans (M.out.oth sb), M.out.arg HB5.out, M.out.arg HB.out, HBest.out.oth (M.out.oth sb), htr, by rw [← HSK.out]; exact hsk⟩, by simp [intOf]; omega⟩
            · have d2 : decide (s'.least ≤ c + a) = false := decide_eq_false q2
              have hno : ¬ (0 ≤ s'.least ∧ s'.least ≤ c + netCost p x) := fun h => q2 (by rw [HA.out]; exact h.2)
              have HNO := Lib.hid hno
              clear hno
              refine region_anyH (fun w' => Mem wr w' [.blk g10 99 (covVals p x).toArray]) (by kernel_rfl) ?_
              have m := M.out.drew
              clear M
              have M := Lib.hid m
              clear m
              apply takeH (i := 0) 37 rfl (by kernel_rfl) (by kernel_rfl) (by kernel_rfl) (fun _ _ _ h => h) rfl (by first | exact M.out | exact M.out.take 1)
              case' hy =>
                refine Or.inl ⟨by first | rfl | (go_simp; done), ?_⟩
                intro w hS
                clear hS
                go_simp
                try with_reducible rfl
              try simp only [Act.put, List.getElem_toArray, List.getElem_cons_succ, List.getElem_cons_zero, List.setIfInBounds_toArray, List.set_cons_succ, List.set_cons_zero]
              apply takeH (i := 1) 38 rfl (by kernel_rfl) (by kernel_rfl) (by kernel_rfl) (fun _ _ _ h => h) rfl (by first | exact M.out | exact M.out.take 1)
              case' hy =>
                refine Or.inl ⟨by first | rfl | (go_simp; done), ?_⟩
                intro w hS
                clear hS
                go_simp
                try with_reducible rfl
              try simp only [Act.put, List.getElem_toArray, List.getElem_cons_succ, List.getElem_cons_zero, List.setIfInBounds_toArray, List.set_cons_succ, List.set_cons_zero]
              apply takeH (i := 2) 39 rfl (by kernel_rfl) (by kernel_rfl) (by kernel_rfl) (fun _ _ _ h => h) rfl (by first | exact M.out | exact M.out.take 1)
              case' hy =>
                refine Or.inl ⟨by first | rfl | (go_simp; done), ?_⟩
                intro w hS
                clear hS
                go_simp
                try with_reducible rfl
              try simp only [Act.put, List.getElem_toArray, List.getElem_cons_succ, List.getElem_cons_zero, List.setIfInBounds_toArray, List.set_cons_succ, List.set_cons_zero]
              apply takeH (i := 3) 40 rfl (by kernel_rfl) (by kernel_rfl) (by kernel_rfl) (fun _ _ _ h => h) rfl (by first | exact M.out | exact M.out.take 1)
              case' hy => exact ylds _ _ rfl rfl Try.underlying2 rfl rfl (fun w' hS => (hS.arg HB.out).cellv (i := 4) (v := .int .i64 s'.least) rfl)
              try simp only [Act.put, List.getElem_toArray, List.getElem_cons_succ, List.getElem_cons_zero, List.setIfInBounds_toArray, List.set_cons_succ, List.set_cons_zero]
              apply takeH (i := 4) 41 rfl (by kernel_rfl) (by kernel_rfl) (by kernel_rfl) (fun _ _ _ h => h) rfl (by first | exact M.out | exact M.out.take 1)
              case' hy =>
                refine Or.inl ⟨by first | rfl | (go_simp; done), ?_⟩
                intro w hS
                clear hS
                go_simp
                try with_reducible rfl
              try simp only [Act.put, List.getElem_toArray, List.getElem_cons_succ, List.getElem_cons_zero, List.setIfInBounds_toArray, List.set_cons_succ, List.set_cons_zero]
              apply takeH (i := 5) 42 rfl (by kernel_rfl) (by kernel_rfl) (by kernel_rfl) (fun _ _ _ h => h) rfl (by first | exact M.out | exact M.out.take 1)
              case' hy =>
                refine Or.inl ⟨by first | rfl | (go_simp; done), ?_⟩
                intro w hS
                clear hS
                go_simp
                try with_reducible rfl
              try simp only [Act.put, List.getElem_toArray, List.getElem_cons_succ, List.getElem_cons_zero, List.setIfInBounds_toArray, List.set_cons_succ, List.set_cons_zero]
              apply takeH (i := 6) 43 rfl (by kernel_rfl) (by kernel_rfl) (by kernel_rfl) (fun _ _ _ h => h) rfl (by first | exact M.out | exact M.out.take 1)
              case' hy =>
                refine Or.inl ⟨by first | rfl | (go_simp; done), ?_⟩
                intro w hS
                clear hS
                go_simp
                try with_reducible rfl
              try simp only [Act.put, List.getElem_toArray, List.getElem_cons_succ, List.getElem_cons_zero, List.setIfInBounds_toArray, List.set_cons_succ, List.set_cons_zero]
              apply takeH (i := 7) 44 rfl (by kernel_rfl) (by kernel_rfl) (by kernel_rfl) (fun _ _ _ h => h) rfl (by first | exact M.out | exact M.out.take 1)
              case' hy =>
                refine Or.inl ⟨by first | rfl | (go_simp; done), ?_⟩
                intro w hS
                clear hS
                go_simp
                try with_reducible rfl
              try simp only [Act.put, List.getElem_toArray, List.getElem_cons_succ, List.getElem_cons_zero, List.setIfInBounds_toArray, List.set_cons_succ, List.set_cons_zero]
              apply takeH (i := 8) 45 rfl (by kernel_rfl) (by kernel_rfl) (by kernel_rfl) (fun _ _ _ h => h) rfl (by first | exact M.out | exact M.out.take 1)
              case' hy => exact yldsW _ _ rfl (by first | rfl | (go_simp; done)) Try.underlying2 rfl rfl (fun w' hS => (hS.blk 0 rfl).cellv (i := 6) VC.out)
              try simp only [Act.put, List.getElem_toArray, List.getElem_cons_succ, List.getElem_cons_zero, List.setIfInBounds_toArray, List.set_cons_succ, List.set_cons_zero]
              apply takeH (i := 9) 46 rfl (by kernel_rfl) (by kernel_rfl) (by kernel_rfl) (fun _ _ _ h => h) rfl (by first | exact M.out | exact M.out.take 1)
              case' hy =>
                refine Or.inl ⟨by first | rfl | (go_simp; done), ?_⟩
                intro w hS
                clear hS
                go_simp
                try with_reducible rfl
              try simp only [Act.put, List.getElem_toArray, List.getElem_cons_succ, List.getElem_cons_zero, List.setIfInBounds_toArray, List.set_cons_succ, List.set_cons_zero]
              apply takeH (i := 10) 47 rfl (by kernel_rfl) (by kernel_rfl) (by kernel_rfl) (fun _ _ _ h => h) rfl (by first | exact M.out | exact M.out.take 1)
              case' hy =>
                refine Or.inl ⟨by first | rfl | (go_simp; done), ?_⟩
                intro w hS
                clear hS
                go_simp
                try with_reducible rfl
              try simp only [Act.put, List.getElem_toArray, List.getElem_cons_succ, List.getElem_cons_zero, List.setIfInBounds_toArray, List.set_cons_succ, List.set_cons_zero]
              apply takeH (i := 11) 48 rfl (by kernel_rfl) (by kernel_rfl) (by kernel_rfl) (fun _ _ _ h => h) rfl (by first | exact M.out | exact M.out.take 1)
              case' hy =>
                refine Or.inl ⟨by first | rfl | (go_simp; done), ?_⟩
                intro w hS
                clear hS
                go_simp
                try with_reducible rfl
              try simp only [Act.put, List.getElem_toArray, List.getElem_cons_succ, List.getElem_cons_zero, List.setIfInBounds_toArray, List.set_cons_succ, List.set_cons_zero]
              apply takeH (i := 12) 49 rfl (by kernel_rfl) (by kernel_rfl) (by kernel_rfl) (fun _ _ _ h => h) rfl (by first | exact M.out | exact M.out.take 1)
              case' hy =>
                refine Or.inl ⟨by first | rfl | (go_simp; done), ?_⟩
                intro w hS
                clear hS
                go_simp
                try with_reducible rfl
              try simp only [Act.put, List.getElem_toArray, List.getElem_cons_succ, List.getElem_cons_zero, List.setIfInBounds_toArray, List.set_cons_succ, List.set_cons_zero]
              apply takeH (i := 13) 50 rfl (by kernel_rfl) (by kernel_rfl) (by kernel_rfl) (fun _ _ _ h => h) rfl (by first | exact M.out | exact M.out.take 1)
              case' hy => exact yldsW _ _ rfl (by first | rfl | (go_simp; done)) Try.underlying2 rfl rfl (fun w' hS => (hS.arg HB.out).cellv (i := 4) (v := .int .i64 s'.least) rfl)
              try simp only [Act.put, List.getElem_toArray, List.getElem_cons_succ, List.getElem_cons_zero, List.setIfInBounds_toArray, List.set_cons_succ, List.set_cons_zero]
              apply takeH (i := 14) 51 rfl (by kernel_rfl) (by kernel_rfl) (by kernel_rfl) (fun _ _ _ h => h) rfl (by first | exact M.out | exact M.out.take 1)
              case' hy =>
                refine Or.inl ⟨by first | rfl | (go_simp; done), ?_⟩
                intro w hS
                clear hS
                go_simp
                try with_reducible rfl
              try simp only [Act.put, List.getElem_toArray, List.getElem_cons_succ, List.getElem_cons_zero, List.setIfInBounds_toArray, List.set_cons_succ, List.set_cons_zero]
              apply takeH (i := 15) 52 rfl (by kernel_rfl) (by kernel_rfl) (by kernel_rfl) (fun _ _ _ h => h) rfl (by first | exact M.out | exact M.out.take 1)
              case' hy =>
                refine Or.inl ⟨by first | rfl | (go_simp; done), ?_⟩
                intro w hS
                clear hS
                go_simp
                try with_reducible rfl
              try simp only [Act.put, List.getElem_toArray, List.getElem_cons_succ, List.getElem_cons_zero, List.setIfInBounds_toArray, List.set_cons_succ, List.set_cons_zero]
              refine wpAnyH_done (by kernel_rfl) ?_ _
              go_wp2
              by_cases q3 : s'.tries = B
              · have q3b : ((s'.tries : Int) == (B : Int)) = true := by rw [beq_iff_eq, q3]
                have HSK := Lib.hid (skIn_out (p := p) (B := B) (r := L.drop (i + 1)) (rec := seek F p B m) (left := left) (ns := ns) HNO.out q3)
                refine region_anyH (fun w' => Mem wr w' [.blk g10 99 (covVals p x).toArray]) (by kernel_rfl) ?_
                have m := M.out.drew
                clear M
                have M := Lib.hid m
                clear m
                apply takeH (i := 0) 53 rfl (by kernel_rfl) (by kernel_rfl) (by kernel_rfl) (fun _ _ _ h => h) rfl (by first | exact M.out | exact M.out.take 1)
                case' hy =>
                  refine Or.inl ⟨by first | rfl | (go_simp; done), ?_⟩
                  intro w hS
                  clear hS
                  go_simp
                  try with_reducible rfl
                try simp only [Act.put, List.getElem_toArray, List.getElem_cons_succ, List.getElem_cons_zero, List.setIfInBounds_toArray, List.set_cons_succ, List.set_cons_zero]
                apply takeH (i := 1) 54 rfl (by kernel_rfl) (by kernel_rfl) (by kernel_rfl) (fun _ _ _ h => h) rfl (by first | exact M.out | exact M.out.take 1)
                case' hy =>
                  refine Or.inl ⟨by first | rfl | (go_simp; done), ?_⟩
                  intro w hS
                  clear hS
                  go_simp
                  try with_reducible rfl
                try simp only [Act.put, List.getElem_toArray, List.getElem_cons_succ, List.getElem_cons_zero, List.setIfInBounds_toArray, List.set_cons_succ, List.set_cons_zero]
                apply takeH (i := 2) 55 rfl (by kernel_rfl) (by kernel_rfl) (by kernel_rfl) (fun _ _ _ h => h) rfl (by first | exact M.out | exact M.out.take 1)
                case' hy =>
                  refine Or.inl ⟨by first | rfl | (go_simp; done), ?_⟩
                  intro w hS
                  clear hS
                  go_simp
                  try with_reducible rfl
                try simp only [Act.put, List.getElem_toArray, List.getElem_cons_succ, List.getElem_cons_zero, List.setIfInBounds_toArray, List.set_cons_succ, List.set_cons_zero]
                apply takeH (i := 3) 56 rfl (by kernel_rfl) (by kernel_rfl) (by kernel_rfl) (fun _ _ _ h => h) rfl (by first | exact M.out | exact M.out.take 1)
                case' hy => exact ylds _ _ rfl rfl Try.underlying2 rfl rfl (fun w' hS => (hS.arg HB.out).cellv (i := 1) (v := .int .i64 s'.tries) rfl)
                try simp only [Act.put, List.getElem_toArray, List.getElem_cons_succ, List.getElem_cons_zero, List.setIfInBounds_toArray, List.set_cons_succ, List.set_cons_zero]
                apply takeH (i := 4) 57 rfl (by kernel_rfl) (by kernel_rfl) (by kernel_rfl) (fun _ _ _ h => h) rfl (by first | exact M.out | exact M.out.take 1)
                case' hy =>
                  refine Or.inl ⟨by first | rfl | (go_simp; done), ?_⟩
                  intro w hS
                  clear hS
                  go_simp
                  try with_reducible rfl
                try simp only [Act.put, List.getElem_toArray, List.getElem_cons_succ, List.getElem_cons_zero, List.setIfInBounds_toArray, List.set_cons_succ, List.set_cons_zero]
                apply takeH (i := 5) 58 rfl (by kernel_rfl) (by kernel_rfl) (by kernel_rfl) (fun _ _ _ h => h) rfl (by first | exact M.out | exact M.out.take 1)
                case' hy =>
                  refine Or.inl ⟨by first | rfl | (go_simp; done), ?_⟩
                  intro w hS
                  clear hS
                  go_simp
                  try with_reducible rfl
                try simp only [Act.put, List.getElem_toArray, List.getElem_cons_succ, List.getElem_cons_zero, List.setIfInBounds_toArray, List.set_cons_succ, List.set_cons_zero]
                apply takeH (i := 6) 59 rfl (by kernel_rfl) (by kernel_rfl) (by kernel_rfl) (fun _ _ _ h => h) rfl (by first | exact M.out | exact M.out.take 1)
                case' hy =>
                  refine Or.inl ⟨by first | rfl | (go_simp; done), ?_⟩
                  intro w hS
                  clear hS
                  go_simp
                  try with_reducible rfl
                try simp only [Act.put, List.getElem_toArray, List.getElem_cons_succ, List.getElem_cons_zero, List.setIfInBounds_toArray, List.set_cons_succ, List.set_cons_zero]
                apply takeH (i := 7) 60 rfl (by kernel_rfl) (by kernel_rfl) (by kernel_rfl) (fun _ _ _ h => h) rfl (by first | exact M.out | exact M.out.take 1)
                case' hy => exact ylds _ _ rfl rfl Try.underlying2 rfl rfl (fun w' hS => (hS.arg HB.out).cellv (i := 2) (v := .int .i64 B) rfl)
                try simp only [Act.put, List.getElem_toArray, List.getElem_cons_succ, List.getElem_cons_zero, List.setIfInBounds_toArray, List.set_cons_succ, List.set_cons_zero]
                apply takeH (i := 8) 61 rfl (by kernel_rfl) (by kernel_rfl) (by kernel_rfl) (fun _ _ _ h => h) rfl (by first | exact M.out | exact M.out.take 1)
                case' hy =>
                  refine Or.inl ⟨by first | rfl | (go_simp; done), ?_⟩
                  intro w hS
                  clear hS
                  go_simp
                  try with_reducible rfl
                try simp only [Act.put, List.getElem_toArray, List.getElem_cons_succ, List.getElem_cons_zero, List.setIfInBounds_toArray, List.set_cons_succ, List.set_cons_zero]
                refine wpAnyH_done (by kernel_rfl) ?_ _
                go_wp2
                go_ret
                refine ⟨bv', (by rw [← hsk]; exact congrArg (fun q => Ending.returned (.bool (Prod.fst q))) HSK.out.symm), HO.out.trans (M.out.oth sb), ?_, ?_⟩
                · rw [← hsk, HSK.out]; exact M.out.arg HB.out
                · rw [← hsk, HSK.out]; exact HBest.out.oth (M.out.oth sb)
              · have q3b : ((s'.tries : Int) == (B : Int)) = false := by rw [← Bool.not_eq_true, beq_iff_eq]; omega
                have HT3 := Lib.hid (seek_tries (F := F) (p := p) (B := B) m (left.without (netSet x)) (ns ++ [x]) (c + a) ⟨s'.tries + 1, s'.least, s'.best⟩ (by show s'.tries + 1 ≤ B; omega))
                have HSK := Lib.hid (fun q hq => skIn_in (p := p) (B := B) (r := L.drop (i + 1)) (rec := seek F p B m) (left := left) (ns := ns) (q := q) HNO.out q3 hq)
                rw [← HA.out] at HSK
                refine region_anyH (fun w' => Mem wr w' [.blk g10 99 (covVals p x).toArray]) (by kernel_rfl) ?_
                have m := M.out.drew
                clear M
                have M := Lib.hid m
                clear m
                apply takeH (i := 0) 53 rfl (by kernel_rfl) (by kernel_rfl) (by kernel_rfl) (fun _ _ _ h => h) rfl (by first | exact M.out | exact M.out.take 1)
                case' hy =>
                  refine Or.inl ⟨by first | rfl | (go_simp; done), ?_⟩
                  intro w hS
                  clear hS
                  go_simp
                  try with_reducible rfl
                try simp only [Act.put, List.getElem_toArray, List.getElem_cons_succ, List.getElem_cons_zero, List.setIfInBounds_toArray, List.set_cons_succ, List.set_cons_zero]
                apply takeH (i := 1) 54 rfl (by kernel_rfl) (by kernel_rfl) (by kernel_rfl) (fun _ _ _ h => h) rfl (by first | exact M.out | exact M.out.take 1)
                case' hy =>
                  refine Or.inl ⟨by first | rfl | (go_simp; done), ?_⟩
                  intro w hS
                  clear hS
                  go_simp
                  try with_reducible rfl
                try simp only [Act.put, List.getElem_toArray, List.getElem_cons_succ, List.getElem_cons_zero, List.setIfInBounds_toArray, List.set_cons_succ, List.set_cons_zero]
                apply takeH (i := 2) 55 rfl (by kernel_rfl) (by kernel_rfl) (by kernel_rfl) (fun _ _ _ h => h) rfl (by first | exact M.out | exact M.out.take 1)
                case' hy =>
                  refine Or.inl ⟨by first | rfl | (go_simp; done), ?_⟩
                  intro w hS
                  clear hS
                  go_simp
                  try with_reducible rfl
                try simp only [Act.put, List.getElem_toArray, List.getElem_cons_succ, List.getElem_cons_zero, List.setIfInBounds_toArray, List.set_cons_succ, List.set_cons_zero]
                apply takeH (i := 3) 56 rfl (by kernel_rfl) (by kernel_rfl) (by kernel_rfl) (fun _ _ _ h => h) rfl (by first | exact M.out | exact M.out.take 1)
                case' hy => exact ylds _ _ rfl rfl Try.underlying2 rfl rfl (fun w' hS => (hS.arg HB.out).cellv (i := 1) (v := .int .i64 s'.tries) rfl)
                try simp only [Act.put, List.getElem_toArray, List.getElem_cons_succ, List.getElem_cons_zero, List.setIfInBounds_toArray, List.set_cons_succ, List.set_cons_zero]
                apply takeH (i := 4) 57 rfl (by kernel_rfl) (by kernel_rfl) (by kernel_rfl) (fun _ _ _ h => h) rfl (by first | exact M.out | exact M.out.take 1)
                case' hy =>
                  refine Or.inl ⟨by first | rfl | (go_simp; done), ?_⟩
                  intro w hS
                  clear hS
                  go_simp
                  try with_reducible rfl
                try simp only [Act.put, List.getElem_toArray, List.getElem_cons_succ, List.getElem_cons_zero, List.setIfInBounds_toArray, List.set_cons_succ, List.set_cons_zero]
                apply takeH (i := 5) 58 rfl (by kernel_rfl) (by kernel_rfl) (by kernel_rfl) (fun _ _ _ h => h) rfl (by first | exact M.out | exact M.out.take 1)
                case' hy =>
                  refine Or.inl ⟨by first | rfl | (go_simp; done), ?_⟩
                  intro w hS
                  clear hS
                  go_simp
                  try with_reducible rfl
                try simp only [Act.put, List.getElem_toArray, List.getElem_cons_succ, List.getElem_cons_zero, List.setIfInBounds_toArray, List.set_cons_succ, List.set_cons_zero]
                apply takeH (i := 6) 59 rfl (by kernel_rfl) (by kernel_rfl) (by kernel_rfl) (fun _ _ _ h => h) rfl (by first | exact M.out | exact M.out.take 1)
                case' hy =>
                  refine Or.inl ⟨by first | rfl | (go_simp; done), ?_⟩
                  intro w hS
                  clear hS
                  go_simp
                  try with_reducible rfl
                try simp only [Act.put, List.getElem_toArray, List.getElem_cons_succ, List.getElem_cons_zero, List.setIfInBounds_toArray, List.set_cons_succ, List.set_cons_zero]
                apply takeH (i := 7) 60 rfl (by kernel_rfl) (by kernel_rfl) (by kernel_rfl) (fun _ _ _ h => h) rfl (by first | exact M.out | exact M.out.take 1)
                case' hy => exact ylds _ _ rfl rfl Try.underlying2 rfl rfl (fun w' hS => (hS.arg HB.out).cellv (i := 2) (v := .int .i64 B) rfl)
                try simp only [Act.put, List.getElem_toArray, List.getElem_cons_succ, List.getElem_cons_zero, List.setIfInBounds_toArray, List.set_cons_succ, List.set_cons_zero]
                apply takeH (i := 8) 61 rfl (by kernel_rfl) (by kernel_rfl) (by kernel_rfl) (fun _ _ _ h => h) rfl (by first | exact M.out | exact M.out.take 1)
                case' hy =>
                  refine Or.inl ⟨by first | rfl | (go_simp; done), ?_⟩
                  intro w hS
                  clear hS
                  go_simp
                  try with_reducible rfl
                try simp only [Act.put, List.getElem_toArray, List.getElem_cons_succ, List.getElem_cons_zero, List.setIfInBounds_toArray, List.set_cons_succ, List.set_cons_zero]
                refine wpAnyH_done (by kernel_rfl) ?_ _
                go_wp2_with (first
                  | ((with_reducible refine gate_dst (N := 65) rfl ?_); go_must (refine ev_get _ _ rfl rfl ((M.out.arg HB.out).cellv (i := 1) (v := .int .i64 s'.tries) rfl) Try.underlying2 rfl rfl ?_))
                  | ((with_reducible refine gate_store (x := .tmp 68) rfl ?_); go_must (refine M.out.ev_poke _ _ _ rfl rfl HB.out rfl _ rfl (by simp [shc]) sz2 rfl rfl ?_); intro v68 w68 m ho68 hb68; have M := Lib.hid m; clear m; have HO68 := Lib.hid ho68; have HX68 := Lib.hid hb68; clear ho68 hb68)
                  )
                have hlt68 : sb < v68.heap.size := HX68.out.lt
                have HLT := Lib.hid hlt68
                have hg10 : g10 ≠ sb := by
                  have := hS10.base 0 rfl
                  omega
                have HG10 := Lib.hid hg10
                have HO68b := HO68
                have HOX := Lib.hid (HO.out.trans HO68.out)
                have HX5 := Lib.hid (HO68.out.blk HB5.out HG5.out)
                clear hS10 hlt68 hg10
                refine region_anyH (fun w' => (Blk w' g5 39 left.cells ∧ Blk w' g10 99 (covVals p x).toArray)) (by kernel_rfl) ?_
                have m := M.out.drew
                clear M
                have M := Lib.hid m
                clear m
                apply takeH (i := 0) 69 rfl (by kernel_rfl) (by kernel_rfl) (by kernel_rfl) (fun _ _ _ h => h) rfl (by first | exact HNOW.out | exact ⟨M.out.arg HX5.out, M.out.blk 0 rfl⟩)
                case' hy =>
                  refine Or.inl ⟨by first | rfl | (go_simp; done), ?_⟩
                  intro w hS
                  clear hS
                  go_simp
                  try with_reducible rfl
                try simp only [Act.put, List.getElem_toArray, List.getElem_cons_succ, List.getElem_cons_zero, List.setIfInBounds_toArray, List.set_cons_succ, List.set_cons_zero]
                apply takeH (i := 1) 70 rfl (by kernel_rfl) (by kernel_rfl) (by kernel_rfl) (fun _ _ _ h => h) rfl (by first | exact HNOW.out | exact ⟨M.out.arg HX5.out, M.out.blk 0 rfl⟩)
                case' hy => exact yldw _ _ rfl rfl Try.underlying39 rfl (by first | exact sz39 | (rw [S1.out]; exact sz39) | (rw [S2.out]; exact sz39) | (rw [S3.out]; exact sz39)) rfl (fun w' hS => hS.1)
                try simp only [Act.put, List.getElem_toArray, List.getElem_cons_succ, List.getElem_cons_zero, List.setIfInBounds_toArray, List.set_cons_succ, List.set_cons_zero]
                apply takeH (i := 2) 71 rfl (by kernel_rfl) (by kernel_rfl) (by kernel_rfl) (fun _ _ _ h => h) rfl (by first | exact HNOW.out | exact ⟨M.out.arg HX5.out, M.out.blk 0 rfl⟩)
                case' hy =>
                  refine Or.inl ⟨by first | rfl | (go_simp; done), ?_⟩
                  intro w hS
                  clear hS
                  go_simp
                  try with_reducible rfl
                try simp only [Act.put, List.getElem_toArray, List.getElem_cons_succ, List.getElem_cons_zero, List.setIfInBounds_toArray, List.set_cons_succ, List.set_cons_zero]
                apply takeH (i := 3) 72 rfl (by kernel_rfl) (by kernel_rfl) (by kernel_rfl) (fun _ _ _ h => h) rfl (by first | exact HNOW.out | exact ⟨M.out.arg HX5.out, M.out.blk 0 rfl⟩)
                case' hy => exact yieldsIf_load_mid (by first | rfl | (go_simp; done)) _ _ rfl _ _ rfl _ _ (fun w' hS => blk_range hS.2 4 [Value.int .u64 (netSet x).lo, Value.int .u64 (netSet x).hi] (cov_set p x)) Try.underlying39 rfl sz39
                try simp only [Act.put, List.getElem_toArray, List.getElem_cons_succ, List.getElem_cons_zero, List.setIfInBounds_toArray, List.set_cons_succ, List.set_cons_zero]
                apply takeH (i := 5) 74 rfl (by kernel_rfl) (by kernel_rfl) (by kernel_rfl) (fun _ _ _ h => h) rfl (by first | exact HNOW.out | exact ⟨M.out.arg HX5.out, M.out.blk 0 rfl⟩)
                case' hy =>
                  refine Or.inl ⟨by first | rfl | (go_simp; done), ?_⟩
                  intro w hS
                  clear hS
                  go_simp
                  try with_reducible rfl
                try simp only [Act.put, List.getElem_toArray, List.getElem_cons_succ, List.getElem_cons_zero, List.setIfInBounds_toArray, List.set_cons_succ, List.set_cons_zero]
                apply takeH (i := 7) 76 rfl (by kernel_rfl) (by kernel_rfl) (by kernel_rfl) (fun _ _ _ h => h) rfl (by first | exact HNOW.out | exact ⟨M.out.arg HX5.out, M.out.blk 0 rfl⟩)
                case' hy =>
                  refine Or.inl ⟨by first | rfl | (go_simp; done), ?_⟩
                  intro w hS
                  clear hS
                  go_simp
                  try with_reducible rfl
                try simp only [Act.put, List.getElem_toArray, List.getElem_cons_succ, List.getElem_cons_zero, List.setIfInBounds_toArray, List.set_cons_succ, List.set_cons_zero]
                apply takeH (i := 8) 77 rfl (by kernel_rfl) (by kernel_rfl) (by kernel_rfl) (fun _ _ _ h => h) rfl (by first | exact HNOW.out | exact ⟨M.out.arg HX5.out, M.out.blk 0 rfl⟩)
                case' hy => exact yieldsIf_load_mid (by first | rfl | (go_simp; done)) _ _ rfl _ _ rfl _ _ (fun w' hS => blk_range hS.2 0 (Net.vals x) (cov_net p x)) Try.underlying65 rfl sz65
                try simp only [Act.put, List.getElem_toArray, List.getElem_cons_succ, List.getElem_cons_zero, List.setIfInBounds_toArray, List.set_cons_succ, List.set_cons_zero]
                apply takeH (i := 11) 80 rfl (by kernel_rfl) (by kernel_rfl) (by kernel_rfl) (fun _ _ _ h => h) rfl (by first | exact HNOW.out | exact ⟨M.out.arg HX5.out, M.out.blk 0 rfl⟩)
                case' hy =>
                  refine Or.inl ⟨by first | rfl | (go_simp; done), ?_⟩
                  intro w hS
                  clear hS
                  go_simp
                  try with_reducible rfl
                try simp only [Act.put, List.getElem_toArray, List.getElem_cons_succ, List.getElem_cons_zero, List.setIfInBounds_toArray, List.set_cons_succ, List.set_cons_zero]
                apply takeH (i := 12) 81 rfl (by kernel_rfl) (by kernel_rfl) (by kernel_rfl) (fun _ _ _ h => h) rfl (by first | exact HNOW.out | exact ⟨M.out.arg HX5.out, M.out.blk 0 rfl⟩)
                case' hy =>
                  refine Or.inl ⟨by first | rfl | (go_simp; done), ?_⟩
                  intro w hS
                  clear hS
                  go_simp
                  try with_reducible rfl
                try simp only [Act.put, List.getElem_toArray, List.getElem_cons_succ, List.getElem_cons_zero, List.setIfInBounds_toArray, List.set_cons_succ, List.set_cons_zero]
                apply takeH (i := 13) 82 rfl (by kernel_rfl) (by kernel_rfl) (by kernel_rfl) (fun _ _ _ h => h) rfl (by first | exact HNOW.out | exact ⟨M.out.arg HX5.out, M.out.blk 0 rfl⟩)
                case' hy => exact ylds _ _ rfl rfl Try.underlying2 rfl rfl (fun w' hS => hS.2.cellv (i := 6) VC.out)
                try simp only [Act.put, List.getElem_toArray, List.getElem_cons_succ, List.getElem_cons_zero, List.setIfInBounds_toArray, List.set_cons_succ, List.set_cons_zero]
                apply takeH (i := 14) 83 rfl (by kernel_rfl) (by kernel_rfl) (by kernel_rfl) (fun _ _ _ h => h) rfl (by first | exact HNOW.out | exact ⟨M.out.arg HX5.out, M.out.blk 0 rfl⟩)
                case' hy =>
                  refine Or.inl ⟨by first | rfl | (go_simp; done), ?_⟩
                  intro w hS
                  clear hS
                  go_simp
                  try with_reducible rfl
                try simp only [Act.put, List.getElem_toArray, List.getElem_cons_succ, List.getElem_cons_zero, List.setIfInBounds_toArray, List.set_cons_succ, List.set_cons_zero]
                refine any2H 4 9 (by kernel_rfl) rfl rfl (fun K hK => ?_) (fun K hK => ?_)
                rotate_right 1
                case' _ =>
                  go_wp2_with (first | ((with_reducible refine gate_dst (N := 70) rfl ?_); go_must (refine M.out.ev_ldw 0 _ _ rfl rfl rfl Try.underlying39 rfl (by first | exact sz39 | (rw [S1.out]; exact sz39) | (rw [S2.out]; exact sz39) | (rw [S3.out]; exact sz39)) rfl ?_)) | ((with_reducible refine gate_dst (N := 72) rfl ?_); go_must (refine M.out.ev_ldm 0 _ _ rfl rfl rfl _ _ (by first | exact Fld.cellsK LF.out | exact Fld.cellsS LF.out | assumption) Try.underlying39 rfl (by first | (rw [List.length_map, LF.out.kl]; exact sz39) | (rw [List.length_map, LF.out.sl]; exact sz39) | exact sz39) rfl ?_)) | ((with_reducible refine gate_dst (N := 77) rfl ?_); go_must (refine M.out.ev_ldm 0 _ _ rfl rfl rfl _ _ (by first | exact Fld.cellsK LF.out | exact Fld.cellsS LF.out | assumption) Try.underlying65 rfl (by first | (rw [List.length_map, LF.out.kl]; exact sz65) | (rw [List.length_map, LF.out.sl]; exact sz65) | exact sz65) rfl ?_)) | ((with_reducible refine gate_dst (N := 82) rfl ?_); go_must (refine M.out.ev_ld 0 _ _ rfl rfl rfl Try.underlying2 rfl rfl (by first | assumption | rfl) ?_)) | (go_at_call 84; go_must (refine (WithoutOf_any _ _ _).mono ?_); rintro e w_ ⟨rfl, N_⟩; have m := M.out.join N_; clear N_; simp only [List.cons_append, List.nil_append, List.append_nil] at m; have M := Lib.hid m; clear m) | (go_at_call 83; go_must (refine (cloneNet_any A cap ns (by have := H.out.nl; omega) H.out.room H.out.empt _ (H.out.sl _ (HOX.out.trans (M.out.oth sb)))).mono ?_); rintro e w_ ⟨A_, c_, rfl, hc_, N_⟩; have m := M.out.join N_; clear N_; simp only [List.cons_append, List.nil_append, List.append_nil] at m; have M := Lib.hid m; clear m) | ((with_reducible refine gate_dst (N := 78) rfl ?_); go_must (refine M.out.ev_bs1 elem_Net rfl _ rfl x.vals.toArray rfl rfl (by decide) ?_); intro g78 w78 m; simp only [List.cons_append, List.nil_append] at m; have M := Lib.hid m; clear m) | ((with_reducible refine gate_dst (N := 79) rfl ?_); go_must (first | (refine M.out.ev_append1 1 2 elem_Net rfl _ _ rfl rfl rfl rfl rfl rfl (Net.one x) (by have := H.out.nl; omega) (by decide) ?_; intro v79 w79 m; simp only [List.set_cons_succ, List.set_cons_zero] at m; obtain ⟨B79, c79, rfl, hc79, _⟩ := m.row_slice 1 rfl; have HIN := Lib.hid (H.out.next hg HZ.out HM.out (s' := s') (bv' := bv') (v := v68) (HOX.out.trans (m.oth sb)) (m.arg HX68.out) (HBest.out.oth (HO68b.out.trans (m.oth sb))) (by omega) (m.row 1 rfl) HLT.out hc79 (m.row_none 1 rfl))) | (refine M.out.ev_append1 2 1 elem_Net rfl _ _ rfl rfl rfl rfl rfl rfl (Net.one x) (by have := H.out.nl; omega) (by decide) ?_; intro v79 w79 m; simp only [List.set_cons_succ, List.set_cons_zero] at m; obtain ⟨B79, c79, rfl, hc79, _⟩ := m.row_slice 2 rfl; have HIN := Lib.hid (H.out.next hg HZ.out HM.out (s' := s') (bv' := bv') (v := v68) (HOX.out.trans (m.oth sb)) (m.arg HX68.out) (HBest.out.oth (HO68b.out.trans (m.oth sb))) (by omega) (m.row 2 rfl) HLT.out hc79 (m.row_none 2 rfl)))); rw [← HA.out] at HIN; have M := Lib.hid m; clear m) | (go_at_call 48; go_must (refine (IH.out _ _ _ _ _ _ _ _ _ HIN.out).mono ?_); rintro e w_ ⟨bv2, rfl, ho2, hb2, hbest2⟩; have HNOW := Lib.hid (show (Blk w_ g5 39 left.cells ∧ Blk w_ g10 99 (covVals p x).toArray) from ⟨ho2.blk (M.out.arg HX5.out) HG5.out, ho2.blk (M.out.blk 0 rfl) HG10.out⟩); have HOW := Lib.hid (HOX.out.trans ((M.out.oth sb).trans ho2)); have HB2 := Lib.hid hb2; have HBest2 := Lib.hid hbest2; clear ho2 hb2 hbest2))
                  refine onward_normal (hK _ _ ⟨(by first | exact HNOW.out | exact ⟨M.out.arg HX5.out, M.out.blk 0 rfl⟩), ?_⟩)
                  clear hK K
                  try simp only [Act.put, List.getElem_toArray, List.getElem_cons_succ, List.getElem_cons_zero, List.setIfInBounds_toArray, List.set_cons_succ, List.set_cons_zero]
                  refine any1H 4 (by kernel_rfl) rfl (fun K hK => ?_)
                  go_wp2_with (first | ((with_reducible refine gate_dst (N := 70) rfl ?_); go_must (refine M.out.ev_ldw 0 _ _ rfl rfl rfl Try.underlying39 rfl (by first | exact sz39 | (rw [S1.out]; exact sz39) | (rw [S2.out]; exact sz39) | (rw [S3.out]; exact sz39)) rfl ?_)) | ((with_reducible refine gate_dst (N := 72) rfl ?_); go_must (refine M.out.ev_ldm 0 _ _ rfl rfl rfl _ _ (by first | exact Fld.cellsK LF.out | exact Fld.cellsS LF.out | assumption) Try.underlying39 rfl (by first | (rw [List.length_map, LF.out.kl]; exact sz39) | (rw [List.length_map, LF.out.sl]; exact sz39) | exact sz39) rfl ?_)) | ((with_reducible refine gate_dst (N := 77) rfl ?_); go_must (refine M.out.ev_ldm 0 _ _ rfl rfl rfl _ _ (by first | exact Fld.cellsK LF.out | exact Fld.cellsS LF.out | assumption) Try.underlying65 rfl (by first | (rw [List.length_map, LF.out.kl]; exact sz65) | (rw [List.length_map, LF.out.sl]; exact sz65) | exact sz65) rfl ?_)) | ((with_reducible refine gate_dst (N := 82) rfl ?_); go_must (refine M.out.ev_ld 0 _ _ rfl rfl rfl Try.underlying2 rfl rfl (by first | assumption | rfl) ?_)) | (go_at_call 84; go_must (refine (WithoutOf_any _ _ _).mono ?_); rintro e w_ ⟨rfl, N_⟩; have m := M.out.join N_; clear N_; simp only [List.cons_append, List.nil_append, List.append_nil] at m; have M := Lib.hid m; clear m) | (go_at_call 83; go_must (refine (cloneNet_any A cap ns (by have := H.out.nl; omega) H.out.room H.out.empt _ (H.out.sl _ (HOX.out.trans (M.out.oth sb)))).mono ?_); rintro e w_ ⟨A_, c_, rfl, hc_, N_⟩; have m := M.out.join N_; clear N_; simp only [List.cons_append, List.nil_append, List.append_nil] at m; have M := Lib.hid m; clear m) | ((with_reducible refine gate_dst (N := 78) rfl ?_); go_must (refine M.out.ev_bs1 elem_Net rfl _ rfl x.vals.toArray rfl rfl (by decide) ?_); intro g78 w78 m; simp only [List.cons_append, List.nil_append] at m; have M := Lib.hid m; clear m) | ((with_reducible refine gate_dst (N := 79) rfl ?_); go_must (first | (refine M.out.ev_append1 1 2 elem_Net rfl _ _ rfl rfl rfl rfl rfl rfl (Net.one x) (by have := H.out.nl; omega) (by decide) ?_; intro v79 w79 m; simp only [List.set_cons_succ, List.set_cons_zero] at m; obtain ⟨B79, c79, rfl, hc79, _⟩ := m.row_slice 1 rfl; have HIN := Lib.hid (H.out.next hg HZ.out HM.out (s' := s') (bv' := bv') (v := v68) (HOX.out.trans (m.oth sb)) (m.arg HX68.out) (HBest.out.oth (HO68b.out.trans (m.oth sb))) (by omega) (m.row 1 rfl) HLT.out hc79 (m.row_none 1 rfl))) | (refine M.out.ev_append1 2 1 elem_Net rfl _ _ rfl rfl rfl rfl rfl rfl (Net.one x) (by have := H.out.nl; omega) (by decide) ?_; intro v79 w79 m; simp only [List.set_cons_succ, List.set_cons_zero] at m; obtain ⟨B79, c79, rfl, hc79, _⟩ := m.row_slice 2 rfl; have HIN := Lib.hid (H.out.next hg HZ.out HM.out (s' := s') (bv' := bv') (v := v68) (HOX.out.trans (m.oth sb)) (m.arg HX68.out) (HBest.out.oth (HO68b.out.trans (m.oth sb))) (by omega) (m.row 2 rfl) HLT.out hc79 (m.row_none 2 rfl)))); rw [← HA.out] at HIN; have M := Lib.hid m; clear m) | (go_at_call 48; go_must (refine (IH.out _ _ _ _ _ _ _ _ _ HIN.out).mono ?_); rintro e w_ ⟨bv2, rfl, ho2, hb2, hbest2⟩; have HNOW := Lib.hid (show (Blk w_ g5 39 left.cells ∧ Blk w_ g10 99 (covVals p x).toArray) from ⟨ho2.blk (M.out.arg HX5.out) HG5.out, ho2.blk (M.out.blk 0 rfl) HG10.out⟩); have HOW := Lib.hid (HOX.out.trans ((M.out.oth sb).trans ho2)); have HB2 := Lib.hid hb2; have HBest2 := Lib.hid hbest2; clear ho2 hb2 hbest2))
                  refine onward_normal (hK _ _ ⟨(by first | exact HNOW.out | exact ⟨M.out.arg HX5.out, M.out.blk 0 rfl⟩), ?_⟩)
                  clear hK K
                  try simp only [Act.put, List.getElem_toArray, List.getElem_cons_succ, List.getElem_cons_zero, List.setIfInBounds_toArray, List.set_cons_succ, List.set_cons_zero]
                  refine any1H 6 (by kernel_rfl) rfl (fun K hK => ?_)
                  go_wp2_with (first | ((with_reducible refine gate_dst (N := 70) rfl ?_); go_must (refine M.out.ev_ldw 0 _ _ rfl rfl rfl Try.underlying39 rfl (by first | exact sz39 | (rw [S1.out]; exact sz39) | (rw [S2.out]; exact sz39) | (rw [S3.out]; exact sz39)) rfl ?_)) | ((with_reducible refine gate_dst (N := 72) rfl ?_); go_must (refine M.out.ev_ldm 0 _ _ rfl rfl rfl _ _ (by first | exact Fld.cellsK LF.out | exact Fld.cellsS LF.out | assumption) Try.underlying39 rfl (by first | (rw [List.length_map, LF.out.kl]; exact sz39) | (rw [List.length_map, LF.out.sl]; exact sz39) | exact sz39) rfl ?_)) | ((with_reducible refine gate_dst (N := 77) rfl ?_); go_must (refine M.out.ev_ldm 0 _ _ rfl rfl rfl _ _ (by first | exact Fld.cellsK LF.out | exact Fld.cellsS LF.out | assumption) Try.underlying65 rfl (by first | (rw [List.length_map, LF.out.kl]; exact sz65) | (rw [List.length_map, LF.out.sl]; exact sz65) | exact sz65) rfl ?_)) | ((with_reducible refine gate_dst (N := 82) rfl ?_); go_must (refine M.out.ev_ld 0 _ _ rfl rfl rfl Try.underlying2 rfl rfl (by first | assumption | rfl) ?_)) | (go_at_call 84; go_must (refine (WithoutOf_any _ _ _).mono ?_); rintro e w_ ⟨rfl, N_⟩; have m := M.out.join N_; clear N_; simp only [List.cons_append, List.nil_append, List.append_nil] at m; have M := Lib.hid m; clear m) | (go_at_call 83; go_must (refine (cloneNet_any A cap ns (by have := H.out.nl; omega) H.out.room H.out.empt _ (H.out.sl _ (HOX.out.trans (M.out.oth sb)))).mono ?_); rintro e w_ ⟨A_, c_, rfl, hc_, N_⟩; have m := M.out.join N_; clear N_; simp only [List.cons_append, List.nil_append, List.append_nil] at m; have M := Lib.hid m; clear m) | ((with_reducible refine gate_dst (N := 78) rfl ?_); go_must (refine M.out.ev_bs1 elem_Net rfl _ rfl x.vals.toArray rfl rfl (by decide) ?_); intro g78 w78 m; simp only [List.cons_append, List.nil_append] at m; have M := Lib.hid m; clear m) | ((with_reducible refine gate_dst (N := 79) rfl ?_); go_must (first | (refine M.out.ev_append1 1 2 elem_Net rfl _ _ rfl rfl rfl rfl rfl rfl (Net.one x) (by have := H.out.nl; omega) (by decide) ?_; intro v79 w79 m; simp only [List.set_cons_succ, List.set_cons_zero] at m; obtain ⟨B79, c79, rfl, hc79, _⟩ := m.row_slice 1 rfl; have HIN := Lib.hid (H.out.next hg HZ.out HM.out (s' := s') (bv' := bv') (v := v68) (HOX.out.trans (m.oth sb)) (m.arg HX68.out) (HBest.out.oth (HO68b.out.trans (m.oth sb))) (by omega) (m.row 1 rfl) HLT.out hc79 (m.row_none 1 rfl))) | (refine M.out.ev_append1 2 1 elem_Net rfl _ _ rfl rfl rfl rfl rfl rfl (Net.one x) (by have := H.out.nl; omega) (by decide) ?_; intro v79 w79 m; simp only [List.set_cons_succ, List.set_cons_zero] at m; obtain ⟨B79, c79, rfl, hc79, _⟩ := m.row_slice 2 rfl; have HIN := Lib.hid (H.out.next hg HZ.out HM.out (s' := s') (bv' := bv') (v := v68) (HOX.out.trans (m.oth sb)) (m.arg HX68.out) (HBest.out.oth (HO68b.out.trans (m.oth sb))) (by omega) (m.row 2 rfl) HLT.out hc79 (m.row_none 2 rfl)))); rw [← HA.out] at HIN; have M := Lib.hid m; clear m) | (go_at_call 48; go_must (refine (IH.out _ _ _ _ _ _ _ _ _ HIN.out).mono ?_); rintro e w_ ⟨bv2, rfl, ho2, hb2, hbest2⟩; have HNOW := Lib.hid (show (Blk w_ g5 39 left.cells ∧ Blk w_ g10 99 (covVals p x).toArray) from ⟨ho2.blk (M.out.arg HX5.out) HG5.out, ho2.blk (M.out.blk 0 rfl) HG10.out⟩); have HOW := Lib.hid (HOX.out.trans ((M.out.oth sb).trans ho2)); have HB2 := Lib.hid hb2; have HBest2 := Lib.hid hbest2; clear ho2 hb2 hbest2))
                  refine onward_normal (hK _ _ ⟨(by first | exact HNOW.out | exact ⟨M.out.arg HX5.out, M.out.blk 0 rfl⟩), ?_⟩)
                  clear hK K
                  try simp only [Act.put, List.getElem_toArray, List.getElem_cons_succ, List.getElem_cons_zero, List.setIfInBounds_toArray, List.set_cons_succ, List.set_cons_zero]
                  refine any1H 10 (by kernel_rfl) rfl (fun K hK => ?_)
                  go_wp2_with (first | ((with_reducible refine gate_dst (N := 70) rfl ?_); go_must (refine M.out.ev_ldw 0 _ _ rfl rfl rfl Try.underlying39 rfl (by first | exact sz39 | (rw [S1.out]; exact sz39) | (rw [S2.out]; exact sz39) | (rw [S3.out]; exact sz39)) rfl ?_)) | ((with_reducible refine gate_dst (N := 72) rfl ?_); go_must (refine M.out.ev_ldm 0 _ _ rfl rfl rfl _ _ (by first | exact Fld.cellsK LF.out | exact Fld.cellsS LF.out | assumption) Try.underlying39 rfl (by first | (rw [List.length_map, LF.out.kl]; exact sz39) | (rw [List.length_map, LF.out.sl]; exact sz39) | exact sz39) rfl ?_)) | ((with_reducible refine gate_dst (N := 77) rfl ?_); go_must (refine M.out.ev_ldm 0 _ _ rfl rfl rfl _ _ (by first | exact Fld.cellsK LF.out | exact Fld.cellsS LF.out | assumption) Try.underlying65 rfl (by first | (rw [List.length_map, LF.out.kl]; exact sz65) | (rw [List.length_map, LF.out.sl]; exact sz65) | exact sz65) rfl ?_)) | ((with_reducible refine gate_dst (N := 82) rfl ?_); go_must (refine M.out.ev_ld 0 _ _ rfl rfl rfl Try.underlying2 rfl rfl (by first | assumption | rfl) ?_)) | (go_at_call 84; go_must (refine (WithoutOf_any _ _ _).mono ?_); rintro e w_ ⟨rfl, N_⟩; have m := M.out.join N_; clear N_; simp only [List.cons_append, List.nil_append, List.append_nil] at m; have M := Lib.hid m; clear m) | (go_at_call 83; go_must (refine (cloneNet_any A cap ns (by have := H.out.nl; omega) H.out.room H.out.empt _ (H.out.sl _ (HOX.out.trans (M.out.oth sb)))).mono ?_); rintro e w_ ⟨A_, c_, rfl, hc_, N_⟩; have m := M.out.join N_; clear N_; simp only [List.cons_append, List.nil_append, List.append_nil] at m; have M := Lib.hid m; clear m) | ((with_reducible refine gate_dst (N := 78) rfl ?_); go_must (refine M.out.ev_bs1 elem_Net rfl _ rfl x.vals.toArray rfl rfl (by decide) ?_); intro g78 w78 m; simp only [List.cons_append, List.nil_append] at m; have M := Lib.hid m; clear m) | ((with_reducible refine gate_dst (N := 79) rfl ?_); go_must (first | (refine M.out.ev_append1 1 2 elem_Net rfl _ _ rfl rfl rfl rfl rfl rfl (Net.one x) (by have := H.out.nl; omega) (by decide) ?_; intro v79 w79 m; simp only [List.set_cons_succ, List.set_cons_zero] at m; obtain ⟨B79, c79, rfl, hc79, _⟩ := m.row_slice 1 rfl; have HIN := Lib.hid (H.out.next hg HZ.out HM.out (s' := s') (bv' := bv') (v := v68) (HOX.out.trans (m.oth sb)) (m.arg HX68.out) (HBest.out.oth (HO68b.out.trans (m.oth sb))) (by omega) (m.row 1 rfl) HLT.out hc79 (m.row_none 1 rfl))) | (refine M.out.ev_append1 2 1 elem_Net rfl _ _ rfl rfl rfl rfl rfl rfl (Net.one x) (by have := H.out.nl; omega) (by decide) ?_; intro v79 w79 m; simp only [List.set_cons_succ, List.set_cons_zero] at m; obtain ⟨B79, c79, rfl, hc79, _⟩ := m.row_slice 2 rfl; have HIN := Lib.hid (H.out.next hg HZ.out HM.out (s' := s') (bv' := bv') (v := v68) (HOX.out.trans (m.oth sb)) (m.arg HX68.out) (HBest.out.oth (HO68b.out.trans (m.oth sb))) (by omega) (m.row 2 rfl) HLT.out hc79 (m.row_none 2 rfl)))); rw [← HA.out] at HIN; have M := Lib.hid m; clear m) | (go_at_call 48; go_must (refine (IH.out _ _ _ _ _ _ _ _ _ HIN.out).mono ?_); rintro e w_ ⟨bv2, rfl, ho2, hb2, hbest2⟩; have HNOW := Lib.hid (show (Blk w_ g5 39 left.cells ∧ Blk w_ g10 99 (covVals p x).toArray) from ⟨ho2.blk (M.out.arg HX5.out) HG5.out, ho2.blk (M.out.blk 0 rfl) HG10.out⟩); have HOW := Lib.hid (HOX.out.trans ((M.out.oth sb).trans ho2)); have HB2 := Lib.hid hb2; have HBest2 := Lib.hid hbest2; clear ho2 hb2 hbest2))
                  refine onward_normal (hK _ _ ⟨(by first | exact HNOW.out | exact ⟨M.out.arg HX5.out, M.out.blk 0 rfl⟩), ?_⟩)
                  clear hK K
                  try simp only [Act.put, List.getElem_toArray, List.getElem_cons_succ, List.getElem_cons_zero, List.setIfInBounds_toArray, List.set_cons_succ, List.set_cons_zero]
                  refine any1H 15 (by kernel_rfl) rfl (fun K hK => ?_)
                  go_wp2_with (first | ((with_reducible refine gate_dst (N := 70) rfl ?_); go_must (refine M.out.ev_ldw 0 _ _ rfl rfl rfl Try.underlying39 rfl (by first | exact sz39 | (rw [S1.out]; exact sz39) | (rw [S2.out]; exact sz39) | (rw [S3.out]; exact sz39)) rfl ?_)) | ((with_reducible refine gate_dst (N := 72) rfl ?_); go_must (refine M.out.ev_ldm 0 _ _ rfl rfl rfl _ _ (by first | exact Fld.cellsK LF.out | exact Fld.cellsS LF.out | assumption) Try.underlying39 rfl (by first | (rw [List.length_map, LF.out.kl]; exact sz39) | (rw [List.length_map, LF.out.sl]; exact sz39) | exact sz39) rfl ?_)) | ((with_reducible refine gate_dst (N := 77) rfl ?_); go_must (refine M.out.ev_ldm 0 _ _ rfl rfl rfl _ _ (by first | exact Fld.cellsK LF.out | exact Fld.cellsS LF.out | assumption) Try.underlying65 rfl (by first | (rw [List.length_map, LF.out.kl]; exact sz65) | (rw [List.length_map, LF.out.sl]; exact sz65) | exact sz65) rfl ?_)) | ((with_reducible refine gate_dst (N := 82) rfl ?_); go_must (refine M.out.ev_ld 0 _ _ rfl rfl rfl Try.underlying2 rfl rfl (by first | assumption | rfl) ?_)) | (go_at_call 84; go_must (refine (WithoutOf_any _ _ _).mono ?_); rintro e w_ ⟨rfl, N_⟩; have m := M.out.join N_; clear N_; simp only [List.cons_append, List.nil_append, List.append_nil] at m; have M := Lib.hid m; clear m) | (go_at_call 83; go_must (refine (cloneNet_any A cap ns (by have := H.out.nl; omega) H.out.room H.out.empt _ (H.out.sl _ (HOX.out.trans (M.out.oth sb)))).mono ?_); rintro e w_ ⟨A_, c_, rfl, hc_, N_⟩; have m := M.out.join N_; clear N_; simp only [List.cons_append, List.nil_append, List.append_nil] at m; have M := Lib.hid m; clear m) | ((with_reducible refine gate_dst (N := 78) rfl ?_); go_must (refine M.out.ev_bs1 elem_Net rfl _ rfl x.vals.toArray rfl rfl (by decide) ?_); intro g78 w78 m; simp only [List.cons_append, List.nil_append] at m; have M := Lib.hid m; clear m) | ((with_reducible refine gate_dst (N := 79) rfl ?_); go_must (first | (refine M.out.ev_append1 1 2 elem_Net rfl _ _ rfl rfl rfl rfl rfl rfl (Net.one x) (by have := H.out.nl; omega) (by decide) ?_; intro v79 w79 m; simp only [List.set_cons_succ, List.set_cons_zero] at m; obtain ⟨B79, c79, rfl, hc79, _⟩ := m.row_slice 1 rfl; have HIN := Lib.hid (H.out.next hg HZ.out HM.out (s' := s') (bv' := bv') (v := v68) (HOX.out.trans (m.oth sb)) (m.arg HX68.out) (HBest.out.oth (HO68b.out.trans (m.oth sb))) (by omega) (m.row 1 rfl) HLT.out hc79 (m.row_none 1 rfl))) | (refine M.out.ev_append1 2 1 elem_Net rfl _ _ rfl rfl rfl rfl rfl rfl (Net.one x) (by have := H.out.nl; omega) (by decide) ?_; intro v79 w79 m; simp only [List.set_cons_succ, List.set_cons_zero] at m; obtain ⟨B79, c79, rfl, hc79, _⟩ := m.row_slice 2 rfl; have HIN := Lib.hid (H.out.next hg HZ.out HM.out (s' := s') (bv' := bv') (v := v68) (HOX.out.trans (m.oth sb)) (m.arg HX68.out) (HBest.out.oth (HO68b.out.trans (m.oth sb))) (by omega) (m.row 2 rfl) HLT.out hc79 (m.row_none 2 rfl)))); rw [← HA.out] at HIN; have M := Lib.hid m; clear m) | (go_at_call 48; go_must (refine (IH.out _ _ _ _ _ _ _ _ _ HIN.out).mono ?_); rintro e w_ ⟨bv2, rfl, ho2, hb2, hbest2⟩; have HNOW := Lib.hid (show (Blk w_ g5 39 left.cells ∧ Blk w_ g10 99 (covVals p x).toArray) from ⟨ho2.blk (M.out.arg HX5.out) HG5.out, ho2.blk (M.out.blk 0 rfl) HG10.out⟩); have HOW := Lib.hid (HOX.out.trans ((M.out.oth sb).trans ho2)); have HB2 := Lib.hid hb2; have HBest2 := Lib.hid hbest2; clear ho2 hb2 hbest2))
                  refine onward_normal (hK _ _ ⟨(by first | exact HNOW.out | exact ⟨M.out.arg HX5.out, M.out.blk 0 rfl⟩), ?_⟩)
                  clear hK K
                  try simp only [Act.put, List.getElem_toArray, List.getElem_cons_succ, List.getElem_cons_zero, List.setIfInBounds_toArray, List.set_cons_succ, List.set_cons_zero]
                  apply takeH (i := 16) 85 rfl (by kernel_rfl) (by kernel_rfl) (by kernel_rfl) (fun _ _ _ h => h) rfl (by first | exact HNOW.out | exact ⟨M.out.arg HX5.out, M.out.blk 0 rfl⟩)
                  case' hy =>
                    refine Or.inl ⟨by first | rfl | (go_simp; done), ?_⟩
                    intro w hS
                    clear hS
                    go_simp
                    try with_reducible rfl
                  try simp only [Act.put, List.getElem_toArray, List.getElem_cons_succ, List.getElem_cons_zero, List.setIfInBounds_toArray, List.set_cons_succ, List.set_cons_zero]
                  refine wpAnyH_done (by kernel_rfl) ?_ _
                rotate_right 1
                case' _ =>
                  go_wp2_with (first | ((with_reducible refine gate_dst (N := 70) rfl ?_); go_must (refine M.out.ev_ldw 0 _ _ rfl rfl rfl Try.underlying39 rfl (by first | exact sz39 | (rw [S1.out]; exact sz39) | (rw [S2.out]; exact sz39) | (rw [S3.out]; exact sz39)) rfl ?_)) | ((with_reducible refine gate_dst (N := 72) rfl ?_); go_must (refine M.out.ev_ldm 0 _ _ rfl rfl rfl _ _ (by first | exact Fld.cellsK LF.out | exact Fld.cellsS LF.out | assumption) Try.underlying39 rfl (by first | (rw [List.length_map, LF.out.kl]; exact sz39) | (rw [List.length_map, LF.out.sl]; exact sz39) | exact sz39) rfl ?_)) | ((with_reducible refine gate_dst (N := 77) rfl ?_); go_must (refine M.out.ev_ldm 0 _ _ rfl rfl rfl _ _ (by first | exact Fld.cellsK LF.out | exact Fld.cellsS LF.out | assumption) Try.underlying65 rfl (by first | (rw [List.length_map, LF.out.kl]; exact sz65) | (rw [List.length_map, LF.out.sl]; exact sz65) | exact sz65) rfl ?_)) | ((with_reducible refine gate_dst (N := 82) rfl ?_); go_must (refine M.out.ev_ld 0 _ _ rfl rfl rfl Try.underlying2 rfl rfl (by first | assumption | rfl) ?_)) | (go_at_call 84; go_must (refine (WithoutOf_any _ _ _).mono ?_); rintro e w_ ⟨rfl, N_⟩; have m := M.out.join N_; clear N_; simp only [List.cons_append, List.nil_append, List.append_nil] at m; have M := Lib.hid m; clear m) | (go_at_call 83; go_must (refine (cloneNet_any A cap ns (by have := H.out.nl; omega) H.out.room H.out.empt _ (H.out.sl _ (HOX.out.trans (M.out.oth sb)))).mono ?_); rintro e w_ ⟨A_, c_, rfl, hc_, N_⟩; have m := M.out.join N_; clear N_; simp only [List.cons_append, List.nil_append, List.append_nil] at m; have M := Lib.hid m; clear m) | ((with_reducible refine gate_dst (N := 78) rfl ?_); go_must (refine M.out.ev_bs1 elem_Net rfl _ rfl x.vals.toArray rfl rfl (by decide) ?_); intro g78 w78 m; simp only [List.cons_append, List.nil_append] at m; have M := Lib.hid m; clear m) | ((with_reducible refine gate_dst (N := 79) rfl ?_); go_must (first | (refine M.out.ev_append1 1 2 elem_Net rfl _ _ rfl rfl rfl rfl rfl rfl (Net.one x) (by have := H.out.nl; omega) (by decide) ?_; intro v79 w79 m; simp only [List.set_cons_succ, List.set_cons_zero] at m; obtain ⟨B79, c79, rfl, hc79, _⟩ := m.row_slice 1 rfl; have HIN := Lib.hid (H.out.next hg HZ.out HM.out (s' := s') (bv' := bv') (v := v68) (HOX.out.trans (m.oth sb)) (m.arg HX68.out) (HBest.out.oth (HO68b.out.trans (m.oth sb))) (by omega) (m.row 1 rfl) HLT.out hc79 (m.row_none 1 rfl))) | (refine M.out.ev_append1 2 1 elem_Net rfl _ _ rfl rfl rfl rfl rfl rfl (Net.one x) (by have := H.out.nl; omega) (by decide) ?_; intro v79 w79 m; simp only [List.set_cons_succ, List.set_cons_zero] at m; obtain ⟨B79, c79, rfl, hc79, _⟩ := m.row_slice 2 rfl; have HIN := Lib.hid (H.out.next hg HZ.out HM.out (s' := s') (bv' := bv') (v := v68) (HOX.out.trans (m.oth sb)) (m.arg HX68.out) (HBest.out.oth (HO68b.out.trans (m.oth sb))) (by omega) (m.row 2 rfl) HLT.out hc79 (m.row_none 2 rfl)))); rw [← HA.out] at HIN; have M := Lib.hid m; clear m) | (go_at_call 48; go_must (refine (IH.out _ _ _ _ _ _ _ _ _ HIN.out).mono ?_); rintro e w_ ⟨bv2, rfl, ho2, hb2, hbest2⟩; have HNOW := Lib.hid (show (Blk w_ g5 39 left.cells ∧ Blk w_ g10 99 (covVals p x).toArray) from ⟨ho2.blk (M.out.arg HX5.out) HG5.out, ho2.blk (M.out.blk 0 rfl) HG10.out⟩); have HOW := Lib.hid (HOX.out.trans ((M.out.oth sb).trans ho2)); have HB2 := Lib.hid hb2; have HBest2 := Lib.hid hbest2; clear ho2 hb2 hbest2))
                  refine onward_normal (hK _ _ ⟨(by first | exact HNOW.out | exact ⟨M.out.arg HX5.out, M.out.blk 0 rfl⟩), ?_⟩)
                  clear hK K
                  try simp only [Act.put, List.getElem_toArray, List.getElem_cons_succ, List.getElem_cons_zero, List.setIfInBounds_toArray, List.set_cons_succ, List.set_cons_zero]
                  refine any2H 6 9 (by kernel_rfl) rfl rfl (fun K hK => ?_) (fun K hK => ?_)
                  rotate_right 1
                  case' _ =>
                    go_wp2_with (first | ((with_reducible refine gate_dst (N := 70) rfl ?_); go_must (refine M.out.ev_ldw 0 _ _ rfl rfl rfl Try.underlying39 rfl (by first | exact sz39 | (rw [S1.out]; exact sz39) | (rw [S2.out]; exact sz39) | (rw [S3.out]; exact sz39)) rfl ?_)) | ((with_reducible refine gate_dst (N := 72) rfl ?_); go_must (refine M.out.ev_ldm 0 _ _ rfl rfl rfl _ _ (by first | exact Fld.cellsK LF.out | exact Fld.cellsS LF.out | assumption) Try.underlying39 rfl (by first | (rw [List.length_map, LF.out.kl]; exact sz39) | (rw [List.length_map, LF.out.sl]; exact sz39) | exact sz39) rfl ?_)) | ((with_reducible refine gate_dst (N := 77) rfl ?_); go_must (refine M.out.ev_ldm 0 _ _ rfl rfl rfl _ _ (by first | exact Fld.cellsK LF.out | exact Fld.cellsS LF.out | assumption) Try.underlying65 rfl (by first | (rw [List.length_map, LF.out.kl]; exact sz65) | (rw [List.length_map, LF.out.sl]; exact sz65) | exact sz65) rfl ?_)) | ((with_reducible refine gate_dst (N := 82) rfl ?_); go_must (refine M.out.ev_ld 0 _ _ rfl rfl rfl Try.underlying2 rfl rfl (by first | assumption | rfl) ?_)) | (go_at_call 84; go_must (refine (WithoutOf_any _ _ _).mono ?_); rintro e w_ ⟨rfl, N_⟩; have m := M.out.join N_; clear N_; simp only [List.cons_append, List.nil_append, List.append_nil] at m; have M := Lib.hid m; clear m) | (go_at_call 83; go_must (refine (cloneNet_any A cap ns (by have := H.out.nl; omega) H.out.room H.out.empt _ (H.out.sl _ (HOX.out.trans (M.out.oth sb)))).mono ?_); rintro e w_ ⟨A_, c_, rfl, hc_, N_⟩; have m := M.out.join N_; clear N_; simp only [List.cons_append, List.nil_append, List.append_nil] at m; have M := Lib.hid m; clear m) | ((with_reducible refine gate_dst (N := 78) rfl ?_); go_must (refine M.out.ev_bs1 elem_Net rfl _ rfl x.vals.toArray rfl rfl (by decide) ?_); intro g78 w78 m; simp only [List.cons_append, List.nil_append] at m; have M := Lib.hid m; clear m) | ((with_reducible refine gate_dst (N := 79) rfl ?_); go_must (first | (refine M.out.ev_append1 1 2 elem_Net rfl _ _ rfl rfl rfl rfl rfl rfl (Net.one x) (by have := H.out.nl; omega) (by decide) ?_; intro v79 w79 m; simp only [List.set_cons_succ, List.set_cons_zero] at m; obtain ⟨B79, c79, rfl, hc79, _⟩ := m.row_slice 1 rfl; have HIN := Lib.hid (H.out.next hg HZ.out HM.out (s' := s') (bv' := bv') (v := v68) (HOX.out.trans (m.oth sb)) (m.arg HX68.out) (HBest.out.oth (HO68b.out.trans (m.oth sb))) (by omega) (m.row 1 rfl) HLT.out hc79 (m.row_none 1 rfl))) | (refine M.out.ev_append1 2 1 elem_Net rfl _ _ rfl rfl rfl rfl rfl rfl (Net.one x) (by have := H.out.nl; omega) (by decide) ?_; intro v79 w79 m; simp only [List.set_cons_succ, List.set_cons_zero] at m; obtain ⟨B79, c79, rfl, hc79, _⟩ := m.row_slice 2 rfl; have HIN := Lib.hid (H.out.next hg HZ.out HM.out (s' := s') (bv' := bv') (v := v68) (HOX.out.trans (m.oth sb)) (m.arg HX68.out) (HBest.out.oth (HO68b.out.trans (m.oth sb))) (by omega) (m.row 2 rfl) HLT.out hc79 (m.row_none 2 rfl)))); rw [← HA.out] at HIN; have M := Lib.hid m; clear m) | (go_at_call 48; go_must (refine (IH.out _ _ _ _ _ _ _ _ _ HIN.out).mono ?_); rintro e w_ ⟨bv2, rfl, ho2, hb2, hbest2⟩; have HNOW := Lib.hid (show (Blk w_ g5 39 left.cells ∧ Blk w_ g10 99 (covVals p x).toArray) from ⟨ho2.blk (M.out.arg HX5.out) HG5.out, ho2.blk (M.out.blk 0 rfl) HG10.out⟩); have HOW := Lib.hid (HOX.out.trans ((M.out.oth sb).trans ho2)); have HB2 := Lib.hid hb2; have HBest2 := Lib.hid hbest2; clear ho2 hb2 hbest2))
                    refine onward_normal (hK _ _ ⟨(by first | exact HNOW.out | exact ⟨M.out.arg HX5.out, M.out.blk 0 rfl⟩), ?_⟩)
                    clear hK K
                    try simp only [Act.put, List.getElem_toArray, List.getElem_cons_succ, List.getElem_cons_zero, List.setIfInBounds_toArray, List.set_cons_succ, List.set_cons_zero]
                    refine any1H 6 (by kernel_rfl) rfl (fun K hK => ?_)
                    go_wp2_with (first | ((with_reducible refine gate_dst (N := 70) rfl ?_); go_must (refine M.out.ev_ldw 0 _ _ rfl rfl rfl Try.underlying39 rfl (by first | exact sz39 | (rw [S1.out]; exact sz39) | (rw [S2.out]; exact sz39) | (rw [S3.out]; exact sz39)) rfl ?_)) | ((with_reducible refine gate_dst (N := 72) rfl ?_); go_must (refine M.out.ev_ldm 0 _ _ rfl rfl rfl _ _ (by first | exact Fld.cellsK LF.out | exact Fld.cellsS LF.out | assumption) Try.underlying39 rfl (by first | (rw [List.length_map, LF.out.kl]; exact sz39) | (rw [List.length_map, LF.out.sl]; exact sz39) | exact sz39) rfl ?_)) | ((with_reducible refine gate_dst (N := 77) rfl ?_); go_must (refine M.out.ev_ldm 0 _ _ rfl rfl rfl _ _ (by first | exact Fld.cellsK LF.out | exact Fld.cellsS LF.out | assumption) Try.underlying65 rfl (by first | (rw [List.length_map, LF.out.kl]; exact sz65) | (rw [List.length_map, LF.out.sl]; exact sz65) | exact sz65) rfl ?_)) | ((with_reducible refine gate_dst (N := 82) rfl ?_); go_must (refine M.out.ev_ld 0 _ _ rfl rfl rfl Try.underlying2 rfl rfl (by first | assumption | rfl) ?_)) | (go_at_call 84; go_must (refine (WithoutOf_any _ _ _).mono ?_); rintro e w_ ⟨rfl, N_⟩; have m := M.out.join N_; clear N_; simp only [List.cons_append, List.nil_append, List.append_nil] at m; have M := Lib.hid m; clear m) | (go_at_call 83; go_must (refine (cloneNet_any A cap ns (by have := H.out.nl; omega) H.out.room H.out.empt _ (H.out.sl _ (HOX.out.trans (M.out.oth sb)))).mono ?_); rintro e w_ ⟨A_, c_, rfl, hc_, N_⟩; have m := M.out.join N_; clear N_; simp only [List.cons_append, List.nil_append, List.append_nil] at m; have M := Lib.hid m; clear m) | ((with_reducible refine gate_dst (N := 78) rfl ?_); go_must (refine M.out.ev_bs1 elem_Net rfl _ rfl x.vals.toArray rfl rfl (by decide) ?_); intro g78 w78 m; simp only [List.cons_append, List.nil_append] at m; have M := Lib.hid m; clear m) | ((with_reducible refine gate_dst (N := 79) rfl ?_); go_must (first | (refine M.out.ev_append1 1 2 elem_Net rfl _ _ rfl rfl rfl rfl rfl rfl (Net.one x) (by have := H.out.nl; omega) (by decide) ?_; intro v79 w79 m; simp only [List.set_cons_succ, List.set_cons_zero] at m; obtain ⟨B79, c79, rfl, hc79, _⟩ := m.row_slice 1 rfl; have HIN := Lib.hid (H.out.next hg HZ.out HM.out (s' := s') (bv' := bv') (v := v68) (HOX.out.trans (m.oth sb)) (m.arg HX68.out) (HBest.out.oth (HO68b.out.trans (m.oth sb))) (by omega) (m.row 1 rfl) HLT.out hc79 (m.row_none 1 rfl))) | (refine M.out.ev_append1 2 1 elem_Net rfl _ _ rfl rfl rfl rfl rfl rfl (Net.one x) (by have := H.out.nl; omega) (by decide) ?_; intro v79 w79 m; simp only [List.set_cons_succ, List.set_cons_zero] at m; obtain ⟨B79, c79, rfl, hc79, _⟩ := m.row_slice 2 rfl; have HIN := Lib.hid (H.out.next hg HZ.out HM.out (s' := s') (bv' := bv') (v := v68) (HOX.out.trans (m.oth sb)) (m.arg HX68.out) (HBest.out.oth (HO68b.out.trans (m.oth sb))) (by omega) (m.row 2 rfl) HLT.out hc79 (m.row_none 2 rfl)))); rw [← HA.out] at HIN; have M := Lib.hid m; clear m) | (go_at_call 48; go_must (refine (IH.out _ _ _ _ _ _ _ _ _ HIN.out).mono ?_); rintro e w_ ⟨bv2, rfl, ho2, hb2, hbest2⟩; have HNOW := Lib.hid (show (Blk w_ g5 39 left.cells ∧ Blk w_ g10 99 (covVals p x).toArray) from ⟨ho2.blk (M.out.arg HX5.out) HG5.out, ho2.blk (M.out.blk 0 rfl) HG10.out⟩); have HOW := Lib.hid (HOX.out.trans ((M.out.oth sb).trans ho2)); have HB2 := Lib.hid hb2; have HBest2 := Lib.hid hbest2; clear ho2 hb2 hbest2))
                    refine onward_normal (hK _ _ ⟨(by first | exact HNOW.out | exact ⟨M.out.arg HX5.out, M.out.blk 0 rfl⟩), ?_⟩)
                    clear hK K
                    try simp only [Act.put, List.getElem_toArray, List.getElem_cons_succ, List.getElem_cons_zero, List.setIfInBounds_toArray, List.set_cons_succ, List.set_cons_zero]
                    refine any1H 10 (by kernel_rfl) rfl (fun K hK => ?_)
                    go_wp2_with (first | ((with_reducible refine gate_dst (N := 70) rfl ?_); go_must (refine M.out.ev_ldw 0 _ _ rfl rfl rfl Try.underlying39 rfl (by first | exact sz39 | (rw [S1.out]; exact sz39) | (rw [S2.out]; exact sz39) | (rw [S3.out]; exact sz39)) rfl ?_)) | ((with_reducible refine gate_dst (N := 72) rfl ?_); go_must (refine M.out.ev_ldm 0 _ _ rfl rfl rfl _ _ (by first | exact Fld.cellsK LF.out | exact Fld.cellsS LF.out | assumption) Try.underlying39 rfl (by first | (rw [List.length_map, LF.out.kl]; exact sz39) | (rw [List.length_map, LF.out.sl]; exact sz39) | exact sz39) rfl ?_)) | ((with_reducible refine gate_dst (N := 77) rfl ?_); go_must (refine M.out.ev_ldm 0 _ _ rfl rfl rfl _ _ (by first | exact Fld.cellsK LF.out | exact Fld.cellsS LF.out | assumption) Try.underlying65 rfl (by first | (rw [List.length_map, LF.out.kl]; exact sz65) | (rw [List.length_map, LF.out.sl]; exact sz65) | exact sz65) rfl ?_)) | ((with_reducible refine gate_dst (N := 82) rfl ?_); go_must (refine M.out.ev_ld 0 _ _ rfl rfl rfl Try.underlying2 rfl rfl (by first | assumption | rfl) ?_)) | (go_at_call 84; go_must (refine (WithoutOf_any _ _ _).mono ?_); rintro e w_ ⟨rfl, N_⟩; have m := M.out.join N_; clear N_; simp only [List.cons_append, List.nil_append, List.append_nil] at m; have M := Lib.hid m; clear m) | (go_at_call 83; go_must (refine (cloneNet_any A cap ns (by have := H.out.nl; omega) H.out.room H.out.empt _ (H.out.sl _ (HOX.out.trans (M.out.oth sb)))).mono ?_); rintro e w_ ⟨A_, c_, rfl, hc_, N_⟩; have m := M.out.join N_; clear N_; simp only [List.cons_append, List.nil_append, List.append_nil] at m; have M := Lib.hid m; clear m) | ((with_reducible refine gate_dst (N := 78) rfl ?_); go_must (refine M.out.ev_bs1 elem_Net rfl _ rfl x.vals.toArray rfl rfl (by decide) ?_); intro g78 w78 m; simp only [List.cons_append, List.nil_append] at m; have M := Lib.hid m; clear m) | ((with_reducible refine gate_dst (N := 79) rfl ?_); go_must (first | (refine M.out.ev_append1 1 2 elem_Net rfl _ _ rfl rfl rfl rfl rfl rfl (Net.one x) (by have := H.out.nl; omega) (by decide) ?_; intro v79 w79 m; simp only [List.set_cons_succ, List.set_cons_zero] at m; obtain ⟨B79, c79, rfl, hc79, _⟩ := m.row_slice 1 rfl; have HIN := Lib.hid (H.out.next hg HZ.out HM.out (s' := s') (bv' := bv') (v := v68) (HOX.out.trans (m.oth sb)) (m.arg HX68.out) (HBest.out.oth (HO68b.out.trans (m.oth sb))) (by omega) (m.row 1 rfl) HLT.out hc79 (m.row_none 1 rfl))) | (refine M.out.ev_append1 2 1 elem_Net rfl _ _ rfl rfl rfl rfl rfl rfl (Net.one x) (by have := H.out.nl; omega) (by decide) ?_; intro v79 w79 m; simp only [List.set_cons_succ, List.set_cons_zero] at m; obtain ⟨B79, c79, rfl, hc79, _⟩ := m.row_slice 2 rfl; have HIN := Lib.hid (H.out.next hg HZ.out HM.out (s' := s') (bv' := bv') (v := v68) (HOX.out.trans (m.oth sb)) (m.arg HX68.out) (HBest.out.oth (HO68b.out.trans (m.oth sb))) (by omega) (m.row 2 rfl) HLT.out hc79 (m.row_none 2 rfl)))); rw [← HA.out] at HIN; have M := Lib.hid m; clear m) | (go_at_call 48; go_must (refine (IH.out _ _ _ _ _ _ _ _ _ HIN.out).mono ?_); rintro e w_ ⟨bv2, rfl, ho2, hb2, hbest2⟩; have HNOW := Lib.hid (show (Blk w_ g5 39 left.cells ∧ Blk w_ g10 99 (covVals p x).toArray) from ⟨ho2.blk (M.out.arg HX5.out) HG5.out, ho2.blk (M.out.blk 0 rfl) HG10.out⟩); have HOW := Lib.hid (HOX.out.trans ((M.out.oth sb).trans ho2)); have HB2 := Lib.hid hb2; have HBest2 := Lib.hid hbest2; clear ho2 hb2 hbest2))
                    refine onward_normal (hK _ _ ⟨(by first | exact HNOW.out | exact ⟨M.out.arg HX5.out, M.out.blk 0 rfl⟩), ?_⟩)
                    clear hK K
                    try simp only [Act.put, List.getElem_toArray, List.getElem_cons_succ, List.getElem_cons_zero, List.setIfInBounds_toArray, List.set_cons_succ, List.set_cons_zero]
                    refine any1H 15 (by kernel_rfl) rfl (fun K hK => ?_)
                    go_wp2_with (first | ((with_reducible refine gate_dst (N := 70) rfl ?_); go_must (refine M.out.ev_ldw 0 _ _ rfl rfl rfl Try.underlying39 rfl (by first | exact sz39 | (rw [S1.out]; exact sz39) | (rw [S2.out]; exact sz39) | (rw [S3.out]; exact sz39)) rfl ?_)) | ((with_reducible refine gate_dst (N := 72) rfl ?_); go_must (refine M.out.ev_ldm 0 _ _ rfl rfl rfl _ _ (by first | exact Fld.cellsK LF.out | exact Fld.cellsS LF.out | assumption) Try.underlying39 rfl (by first | (rw [List.length_map, LF.out.kl]; exact sz39) | (rw [List.length_map, LF.out.sl]; exact sz39) | exact sz39) rfl ?_)) | ((with_reducible refine gate_dst (N := 77) rfl ?_); go_must (refine M.out.ev_ldm 0 _ _ rfl rfl rfl _ _ (by first | exact Fld.cellsK LF.out | exact Fld.cellsS LF.out | assumption) Try.underlying65 rfl (by first | (rw [List.length_map, LF.out.kl]; exact sz65) | (rw [List.length_map, LF.out.sl]; exact sz65) | exact sz65) rfl ?_)) | ((with_reducible refine gate_dst (N := 82) rfl ?_); go_must (refine M.out.ev_ld 0 _ _ rfl rfl rfl Try.underlying2 rfl rfl (by first | assumption | rfl) ?_)) | (go_at_call 84; go_must (refine (WithoutOf_any _ _ _).mono ?_); rintro e w_ ⟨rfl, N_⟩; have m := M.out.join N_; clear N_; simp only [List.cons_append, List.nil_append, List.append_nil] at m; have M := Lib.hid m; clear m) | (go_at_call 83; go_must (refine (cloneNet_any A cap ns (by have := H.out.nl; omega) H.out.room H.out.empt _ (H.out.sl _ (HOX.out.trans (M.out.oth sb)))).mono ?_); rintro e w_ ⟨A_, c_, rfl, hc_, N_⟩; have m := M.out.join N_; clear N_; simp only [List.cons_append, List.nil_append, List.append_nil] at m; have M := Lib.hid m; clear m) | ((with_reducible refine gate_dst (N := 78) rfl ?_); go_must (refine M.out.ev_bs1 elem_Net rfl _ rfl x.vals.toArray rfl rfl (by decide) ?_); intro g78 w78 m; simp only [List.cons_append, List.nil_append] at m; have M := Lib.hid m; clear m) | ((with_reducible refine gate_dst (N := 79) rfl ?_); go_must (first | (refine M.out.ev_append1 1 2 elem_Net rfl _ _ rfl rfl rfl rfl rfl rfl (Net.one x) (by have := H.out.nl; omega) (by decide) ?_; intro v79 w79 m; simp only [List.set_cons_succ, List.set_cons_zero] at m; obtain ⟨B79, c79, rfl, hc79, _⟩ := m.row_slice 1 rfl; have HIN := Lib.hid (H.out.next hg HZ.out HM.out (s' := s') (bv' := bv') (v := v68) (HOX.out.trans (m.oth sb)) (m.arg HX68.out) (HBest.out.oth (HO68b.out.trans (m.oth sb))) (by omega) (m.row 1 rfl) HLT.out hc79 (m.row_none 1 rfl))) | (refine M.out.ev_append1 2 1 elem_Net rfl _ _ rfl rfl rfl rfl rfl rfl (Net.one x) (by have := H.out.nl; omega) (by decide) ?_; intro v79 w79 m; simp only [List.set_cons_succ, List.set_cons_zero] at m; obtain ⟨B79, c79, rfl, hc79, _⟩ := m.row_slice 2 rfl; have HIN := Lib.hid (H.out.next hg HZ.out HM.out (s' := s') (bv' := bv') (v := v68) (HOX.out.trans (m.oth sb)) (m.arg HX68.out) (HBest.out.oth (HO68b.out.trans (m.oth sb))) (by omega) (m.row 2 rfl) HLT.out hc79 (m.row_none 2 rfl)))); rw [← HA.out] at HIN; have M := Lib.hid m; clear m) | (go_at_call 48; go_must (refine (IH.out _ _ _ _ _ _ _ _ _ HIN.out).mono ?_); rintro e w_ ⟨bv2, rfl, ho2, hb2, hbest2⟩; have HNOW := Lib.hid (show (Blk w_ g5 39 left.cells ∧ Blk w_ g10 99 (covVals p x).toArray) from ⟨ho2.blk (M.out.arg HX5.out) HG5.out, ho2.blk (M.out.blk 0 rfl) HG10.out⟩); have HOW := Lib.hid (HOX.out.trans ((M.out.oth sb).trans ho2)); have HB2 := Lib.hid hb2; have HBest2 := Lib.hid hbest2; clear ho2 hb2 hbest2))
                    refine onward_normal (hK _ _ ⟨(by first | exact HNOW.out | exact ⟨M.out.arg HX5.out, M.out.blk 0 rfl⟩), ?_⟩)
                    clear hK K
                    try simp only [Act.put, List.getElem_toArray, List.getElem_cons_succ, List.getElem_cons_zero, List.setIfInBounds_toArray, List.set_cons_succ, List.set_cons_zero]
                    apply takeH (i := 16) 85 rfl (by kernel_rfl) (by kernel_rfl) (by kernel_rfl) (fun _ _ _ h => h) rfl (by first | exact HNOW.out | exact ⟨M.out.arg HX5.out, M.out.blk 0 rfl⟩)
                    case' hy =>
                      refine Or.inl ⟨by first | rfl | (go_simp; done), ?_⟩
                      intro w hS
                      clear hS
                      go_simp
                      try with_reducible rfl
                    try simp only [Act.put, List.getElem_toArray, List.getElem_cons_succ, List.getElem_cons_zero, List.setIfInBounds_toArray, List.set_cons_succ, List.set_cons_zero]
                    refine wpAnyH_done (by kernel_rfl) ?_ _
                  rotate_right 1
                  case' _ =>
                    go_wp2_with (first | ((with_reducible refine gate_dst (N := 70) rfl ?_); go_must (refine M.out.ev_ldw 0 _ _ rfl rfl rfl Try.underlying39 rfl (by first | exact sz39 | (rw [S1.out]; exact sz39) | (rw [S2.out]; exact sz39) | (rw [S3.out]; exact sz39)) rfl ?_)) | ((with_reducible refine gate_dst (N := 72) rfl ?_); go_must (refine M.out.ev_ldm 0 _ _ rfl rfl rfl _ _ (by first | exact Fld.cellsK LF.out | exact Fld.cellsS LF.out | assumption) Try.underlying39 rfl (by first | (rw [List.length_map, LF.out.kl]; exact sz39) | (rw [List.length_map, LF.out.sl]; exact sz39) | exact sz39) rfl ?_)) | ((with_reducible refine gate_dst (N := 77) rfl ?_); go_must (refine M.out.ev_ldm 0 _ _ rfl rfl rfl _ _ (by first | exact Fld.cellsK LF.out | exact Fld.cellsS LF.out | assumption) Try.underlying65 rfl (by first | (rw [List.length_map, LF.out.kl]; exact sz65) | (rw [List.length_map, LF.out.sl]; exact sz65) | exact sz65) rfl ?_)) | ((with_reducible refine gate_dst (N := 82) rfl ?_); go_must (refine M.out.ev_ld 0 _ _ rfl rfl rfl Try.underlying2 rfl rfl (by first | assumption | rfl) ?_)) | (go_at_call 84; go_must (refine (WithoutOf_any _ _ _).mono ?_); rintro e w_ ⟨rfl, N_⟩; have m := M.out.join N_; clear N_; simp only [List.cons_append, List.nil_append, List.append_nil] at m; have M := Lib.hid m; clear m) | (go_at_call 83; go_must (refine (cloneNet_any A cap ns (by have := H.out.nl; omega) H.out.room H.out.empt _ (H.out.sl _ (HOX.out.trans (M.out.oth sb)))).mono ?_); rintro e w_ ⟨A_, c_, rfl, hc_, N_⟩; have m := M.out.join N_; clear N_; simp only [List.cons_append, List.nil_append, List.append_nil] at m; have M := Lib.hid m; clear m) | ((with_reducible refine gate_dst (N := 78) rfl ?_); go_must (refine M.out.ev_bs1 elem_Net rfl _ rfl x.vals.toArray rfl rfl (by decide) ?_); intro g78 w78 m; simp only [List.cons_append, List.nil_append] at m; have M := Lib.hid m; clear m) | ((with_reducible refine gate_dst (N := 79) rfl ?_); go_must (first | (refine M.out.ev_append1 1 2 elem_Net rfl _ _ rfl rfl rfl rfl rfl rfl (Net.one x) (by have := H.out.nl; omega) (by decide) ?_; intro v79 w79 m; simp only [List.set_cons_succ, List.set_cons_zero] at m; obtain ⟨B79, c79, rfl, hc79, _⟩ := m.row_slice 1 rfl; have HIN := Lib.hid (H.out.next hg HZ.out HM.out (s' := s') (bv' := bv') (v := v68) (HOX.out.trans (m.oth sb)) (m.arg HX68.out) (HBest.out.oth (HO68b.out.trans (m.oth sb))) (by omega) (m.row 1 rfl) HLT.out hc79 (m.row_none 1 rfl))) | (refine M.out.ev_append1 2 1 elem_Net rfl _ _ rfl rfl rfl rfl rfl rfl (Net.one x) (by have := H.out.nl; omega) (by decide) ?_; intro v79 w79 m; simp only [List.set_cons_succ, List.set_cons_zero] at m; obtain ⟨B79, c79, rfl, hc79, _⟩ := m.row_slice 2 rfl; have HIN := Lib.hid (H.out.next hg HZ.out HM.out (s' := s') (bv' := bv') (v := v68) (HOX.out.trans (m.oth sb)) (m.arg HX68.out) (HBest.out.oth (HO68b.out.trans (m.oth sb))) (by omega) (m.row 2 rfl) HLT.out hc79 (m.row_none 2 rfl)))); rw [← HA.out] at HIN; have M := Lib.hid m; clear m) | (go_at_call 48; go_must (refine (IH.out _ _ _ _ _ _ _ _ _ HIN.out).mono ?_); rintro e w_ ⟨bv2, rfl, ho2, hb2, hbest2⟩; have HNOW := Lib.hid (show (Blk w_ g5 39 left.cells ∧ Blk w_ g10 99 (covVals p x).toArray) from ⟨ho2.blk (M.out.arg HX5.out) HG5.out, ho2.blk (M.out.blk 0 rfl) HG10.out⟩); have HOW := Lib.hid (HOX.out.trans ((M.out.oth sb).trans ho2)); have HB2 := Lib.hid hb2; have HBest2 := Lib.hid hbest2; clear ho2 hb2 hbest2))
                    refine onward_normal (hK _ _ ⟨(by first | exact HNOW.out | exact ⟨M.out.arg HX5.out, M.out.blk 0 rfl⟩), ?_⟩)
                    clear hK K
                    try simp only [Act.put, List.getElem_toArray, List.getElem_cons_succ, List.getElem_cons_zero, List.setIfInBounds_toArray, List.set_cons_succ, List.set_cons_zero]
                    refine any1H 9 (by kernel_rfl) rfl (fun K hK => ?_)
                    go_wp2_with (first | ((with_reducible refine gate_dst (N := 70) rfl ?_); go_must (refine M.out.ev_ldw 0 _ _ rfl rfl rfl Try.underlying39 rfl (by first | exact sz39 | (rw [S1.out]; exact sz39) | (rw [S2.out]; exact sz39) | (rw [S3.out]; exact sz39)) rfl ?_)) | ((with_reducible refine gate_dst (N := 72) rfl ?_); go_must (refine M.out.ev_ldm 0 _ _ rfl rfl rfl _ _ (by first | exact Fld.cellsK LF.out | exact Fld.cellsS LF.out | assumption) Try.underlying39 rfl (by first | (rw [List.length_map, LF.out.kl]; exact sz39) | (rw [List.length_map, LF.out.sl]; exact sz39) | exact sz39) rfl ?_)) | ((with_reducible refine gate_dst (N := 77) rfl ?_); go_must (refine M.out.ev_ldm 0 _ _ rfl rfl rfl _ _ (by first | exact Fld.cellsK LF.out | exact Fld.cellsS LF.out | assumption) Try.underlying65 rfl (by first | (rw [List.length_map, LF.out.kl]; exact sz65) | (rw [List.length_map, LF.out.sl]; exact sz65) | exact sz65) rfl ?_)) | ((with_reducible refine gate_dst (N := 82) rfl ?_); go_must (refine M.out.ev_ld 0 _ _ rfl rfl rfl Try.underlying2 rfl rfl (by first | assumption | rfl) ?_)) | (go_at_call 84; go_must (refine (WithoutOf_any _ _ _).mono ?_); rintro e w_ ⟨rfl, N_⟩; have m := M.out.join N_; clear N_; simp only [List.cons_append, List.nil_append, List.append_nil] at m; have M := Lib.hid m; clear m) | (go_at_call 83; go_must (refine (cloneNet_any A cap ns (by have := H.out.nl; omega) H.out.room H.out.empt _ (H.out.sl _ (HOX.out.trans (M.out.oth sb)))).mono ?_); rintro e w_ ⟨A_, c_, rfl, hc_, N_⟩; have m := M.out.join N_; clear N_; simp only [List.cons_append, List.nil_append, List.append_nil] at m; have M := Lib.hid m; clear m) | ((with_reducible refine gate_dst (N := 78) rfl ?_); go_must (refine M.out.ev_bs1 elem_Net rfl _ rfl x.vals.toArray rfl rfl (by decide) ?_); intro g78 w78 m; simp only [List.cons_append, List.nil_append] at m; have M := Lib.hid m; clear m) | ((with_reducible refine gate_dst (N := 79) rfl ?_); go_must (first | (refine M.out.ev_append1 1 2 elem_Net rfl _ _ rfl rfl rfl rfl rfl rfl (Net.one x) (by have := H.out.nl; omega) (by decide) ?_; intro v79 w79 m; simp only [List.set_cons_succ, List.set_cons_zero] at m; obtain ⟨B79, c79, rfl, hc79, _⟩ := m.row_slice 1 rfl; have HIN := Lib.hid (H.out.next hg HZ.out HM.out (s' := s') (bv' := bv') (v := v68) (HOX.out.trans (m.oth sb)) (m.arg HX68.out) (HBest.out.oth (HO68b.out.trans (m.oth sb))) (by omega) (m.row 1 rfl) HLT.out hc79 (m.row_none 1 rfl))) | (refine M.out.ev_append1 2 1 elem_Net rfl _ _ rfl rfl rfl rfl rfl rfl (Net.one x) (by have := H.out.nl; omega) (by decide) ?_; intro v79 w79 m; simp only [List.set_cons_succ, List.set_cons_zero] at m; obtain ⟨B79, c79, rfl, hc79, _⟩ := m.row_slice 2 rfl; have HIN := Lib.hid (H.out.next hg HZ.out HM.out (s' := s') (bv' := bv') (v := v68) (HOX.out.trans (m.oth sb)) (m.arg HX68.out) (HBest.out.oth (HO68b.out.trans (m.oth sb))) (by omega) (m.row 2 rfl) HLT.out hc79 (m.row_none 2 rfl)))); rw [← HA.out] at HIN; have M := Lib.hid m; clear m) | (go_at_call 48; go_must (refine (IH.out _ _ _ _ _ _ _ _ _ HIN.out).mono ?_); rintro e w_ ⟨bv2, rfl, ho2, hb2, hbest2⟩; have HNOW := Lib.hid (show (Blk w_ g5 39 left.cells ∧ Blk w_ g10 99 (covVals p x).toArray) from ⟨ho2.blk (M.out.arg HX5.out) HG5.out, ho2.blk (M.out.blk 0 rfl) HG10.out⟩); have HOW := Lib.hid (HOX.out.trans ((M.out.oth sb).trans ho2)); have HB2 := Lib.hid hb2; have HBest2 := Lib.hid hbest2; clear ho2 hb2 hbest2))
                    refine onward_normal (hK _ _ ⟨(by first | exact HNOW.out | exact ⟨M.out.arg HX5.out, M.out.blk 0 rfl⟩), ?_⟩)
                    clear hK K
                    try simp only [Act.put, List.getElem_toArray, List.getElem_cons_succ, List.getElem_cons_zero, List.setIfInBounds_toArray, List.set_cons_succ, List.set_cons_zero]
                    refine any1H 10 (by kernel_rfl) rfl (fun K hK => ?_)
                    go_wp2_with (first | ((with_reducible refine gate_dst (N := 70) rfl ?_); go_must (refine M.out.ev_ldw 0 _ _ rfl rfl rfl Try.underlying39 rfl (by first | exact sz39 | (rw [S1.out]; exact sz39) | (rw [S2.out]; exact sz39) | (rw [S3.out]; exact sz39)) rfl ?_)) | ((with_reducible refine gate_dst (N := 72) rfl ?_); go_must (refine M.out.ev_ldm 0 _ _ rfl rfl rfl _ _ (by first | exact Fld.cellsK LF.out | exact Fld.cellsS LF.out | assumption) Try.underlying39 rfl (by first | (rw [List.length_map, LF.out.kl]; exact sz39) | (rw [List.length_map, LF.out.sl]; exact sz39) | exact sz39) rfl ?_)) | ((with_reducible refine gate_dst (N := 77) rfl ?_); go_must (refine M.out.ev_ldm 0 _ _ rfl rfl rfl _ _ (by first | exact Fld.cellsK LF.out | exact Fld.cellsS LF.out | assumption) Try.underlying65 rfl (by first | (rw [List.length_map, LF.out.kl]; exact sz65) | (rw [List.length_map, LF.out.sl]; exact sz65) | exact sz65) rfl ?_)) | ((with_reducible refine gate_dst (N := 82) rfl ?_); go_must (refine M.out.ev_ld 0 _ _ rfl rfl rfl Try.underlying2 rfl rfl (by first | assumption | rfl) ?_)) | (go_at_call 84; go_must (refine (WithoutOf_any _ _ _).mono ?_); rintro e w_ ⟨rfl, N_⟩; have m := M.out.join N_; clear N_; simp only [List.cons_append, List.nil_append, List.append_nil] at m; have M := Lib.hid m; clear m) | (go_at_call 83; go_must (refine (cloneNet_any A cap ns (by have := H.out.nl; omega) H.out.room H.out.empt _ (H.out.sl _ (HOX.out.trans (M.out.oth sb)))).mono ?_); rintro e w_ ⟨A_, c_, rfl, hc_, N_⟩; have m := M.out.join N_; clear N_; simp only [List.cons_append, List.nil_append, List.append_nil] at m; have M := Lib.hid m; clear m) | ((with_reducible refine gate_dst (N := 78) rfl ?_); go_must (refine M.out.ev_bs1 elem_Net rfl _ rfl x.vals.toArray rfl rfl (by decide) ?_); intro g78 w78 m; simp only [List.cons_append, List.nil_append] at m; have M := Lib.hid m; clear m) | ((with_reducible refine gate_dst (N := 79) rfl ?_); go_must (first | (refine M.out.ev_append1 1 2 elem_Net rfl _ _ rfl rfl rfl rfl rfl rfl (Net.one x) (by have := H.out.nl; omega) (by decide) ?_; intro v79 w79 m; simp only [List.set_cons_succ, List.set_cons_zero] at m; obtain ⟨B79, c79, rfl, hc79, _⟩ := m.row_slice 1 rfl; have HIN := Lib.hid (H.out.next hg HZ.out HM.out (s' := s') (bv' := bv') (v := v68) (HOX.out.trans (m.oth sb)) (m.arg HX68.out) (HBest.out.oth (HO68b.out.trans (m.oth sb))) (by omega) (m.row 1 rfl) HLT.out hc79 (m.row_none 1 rfl))) | (refine M.out.ev_append1 2 1 elem_Net rfl _ _ rfl rfl rfl rfl rfl rfl (Net.one x) (by have := H.out.nl; omega) (by decide) ?_; intro v79 w79 m; simp only [List.set_cons_succ, List.set_cons_zero] at m; obtain ⟨B79, c79, rfl, hc79, _⟩ := m.row_slice 2 rfl; have HIN := Lib.hid (H.out.next hg HZ.out HM.out (s' := s') (bv' := bv') (v := v68) (HOX.out.trans (m.oth sb)) (m.arg HX68.out) (HBest.out.oth (HO68b.out.trans (m.oth sb))) (by omega) (m.row 2 rfl) HLT.out hc79 (m.row_none 2 rfl)))); rw [← HA.out] at HIN; have M := Lib.hid m; clear m) | (go_at_call 48; go_must (refine (IH.out _ _ _ _ _ _ _ _ _ HIN.out).mono ?_); rintro e w_ ⟨bv2, rfl, ho2, hb2, hbest2⟩; have HNOW := Lib.hid (show (Blk w_ g5 39 left.cells ∧ Blk w_ g10 99 (covVals p x).toArray) from ⟨ho2.blk (M.out.arg HX5.out) HG5.out, ho2.blk (M.out.blk 0 rfl) HG10.out⟩); have HOW := Lib.hid (HOX.out.trans ((M.out.oth sb).trans ho2)); have HB2 := Lib.hid hb2; have HBest2 := Lib.hid hbest2; clear ho2 hb2 hbest2))
                    refine onward_normal (hK _ _ ⟨(by first | exact HNOW.out | exact ⟨M.out.arg HX5.out, M.out.blk 0 rfl⟩), ?_⟩)
                    clear hK K
                    try simp only [Act.put, List.getElem_toArray, List.getElem_cons_succ, List.getElem_cons_zero, List.setIfInBounds_toArray, List.set_cons_succ, List.set_cons_zero]
                    refine any1H 15 (by kernel_rfl) rfl (fun K hK => ?_)
                    go_wp2_with (first | ((with_reducible refine gate_dst (N := 70) rfl ?_); go_must (refine M.out.ev_ldw 0 _ _ rfl rfl rfl Try.underlying39 rfl (by first | exact sz39 | (rw [S1.out]; exact sz39) | (rw [S2.out]; exact sz39) | (rw [S3.out]; exact sz39)) rfl ?_)) | ((with_reducible refine gate_dst (N := 72) rfl ?_); go_must (refine M.out.ev_ldm 0 _ _ rfl rfl rfl _ _ (by first | exact Fld.cellsK LF.out | exact Fld.cellsS LF.out | assumption) Try.underlying39 rfl (by first | (rw [List.length_map, LF.out.kl]; exact sz39) | (rw [List.length_map, LF.out.sl]; exact sz39) | exact sz39) rfl ?_)) | ((with_reducible refine gate_dst (N := 77) rfl ?_); go_must (refine M.out.ev_ldm 0 _ _ rfl rfl rfl _ _ (by first | exact Fld.cellsK LF.out | exact Fld.cellsS LF.out | assumption) Try.underlying65 rfl (by first | (rw [List.length_map, LF.out.kl]; exact sz65) | (rw [List.length_map, LF.out.sl]; exact sz65) | exact sz65) rfl ?_)) | ((with_reducible refine gate_dst (N := 82) rfl ?_); go_must (refine M.out.ev_ld 0 _ _ rfl rfl rfl Try.underlying2 rfl rfl (by first | assumption | rfl) ?_)) | (go_at_call 84; go_must (refine (WithoutOf_any _ _ _).mono ?_); rintro e w_ ⟨rfl, N_⟩; have m := M.out.join N_; clear N_; simp only [List.cons_append, List.nil_append, List.append_nil] at m; have M := Lib.hid m; clear m) | (go_at_call 83; go_must (refine (cloneNet_any A cap ns (by have := H.out.nl; omega) H.out.room H.out.empt _ (H.out.sl _ (HOX.out.trans (M.out.oth sb)))).mono ?_); rintro e w_ ⟨A_, c_, rfl, hc_, N_⟩; have m := M.out.join N_; clear N_; simp only [List.cons_append, List.nil_append, List.append_nil] at m; have M := Lib.hid m; clear m) | ((with_reducible refine gate_dst (N := 78) rfl ?_); go_must (refine M.out.ev_bs1 elem_Net rfl _ rfl x.vals.toArray rfl rfl (by decide) ?_); intro g78 w78 m; simp only [List.cons_append, List.nil_append] at m; have M := Lib.hid m; clear m) | ((with_reducible refine gate_dst (N := 79) rfl ?_); go_must (first | (refine M.out.ev_append1 1 2 elem_Net rfl _ _ rfl rfl rfl rfl rfl rfl (Net.one x) (by have := H.out.nl; omega) (by decide) ?_; intro v79 w79 m; simp only [List.set_cons_succ, List.set_cons_zero] at m; obtain ⟨B79, c79, rfl, hc79, _⟩ := m.row_slice 1 rfl; have HIN := Lib.hid (H.out.next hg HZ.out HM.out (s' := s') (bv' := bv') (v := v68) (HOX.out.trans (m.oth sb)) (m.arg HX68.out) (HBest.out.oth (HO68b.out.trans (m.oth sb))) (by omega) (m.row 1 rfl) HLT.out hc79 (m.row_none 1 rfl))) | (refine M.out.ev_append1 2 1 elem_Net rfl _ _ rfl rfl rfl rfl rfl rfl (Net.one x) (by have := H.out.nl; omega) (by decide) ?_; intro v79 w79 m; simp only [List.set_cons_succ, List.set_cons_zero] at m; obtain ⟨B79, c79, rfl, hc79, _⟩ := m.row_slice 2 rfl; have HIN := Lib.hid (H.out.next hg HZ.out HM.out (s' := s') (bv' := bv') (v := v68) (HOX.out.trans (m.oth sb)) (m.arg HX68.out) (HBest.out.oth (HO68b.out.trans (m.oth sb))) (by omega) (m.row 2 rfl) HLT.out hc79 (m.row_none 2 rfl)))); rw [← HA.out] at HIN; have M := Lib.hid m; clear m) | (go_at_call 48; go_must (refine (IH.out _ _ _ _ _ _ _ _ _ HIN.out).mono ?_); rintro e w_ ⟨bv2, rfl, ho2, hb2, hbest2⟩; have HNOW := Lib.hid (show (Blk w_ g5 39 left.cells ∧ Blk w_ g10 99 (covVals p x).toArray) from ⟨ho2.blk (M.out.arg HX5.out) HG5.out, ho2.blk (M.out.blk 0 rfl) HG10.out⟩); have HOW := Lib.hid (HOX.out.trans ((M.out.oth sb).trans ho2)); have HB2 := Lib.hid hb2; have HBest2 := Lib.hid hbest2; clear ho2 hb2 hbest2))
                    refine onward_normal (hK _ _ ⟨(by first | exact HNOW.out | exact ⟨M.out.arg HX5.out, M.out.blk 0 rfl⟩), ?_⟩)
                    clear hK K
                    try simp only [Act.put, List.getElem_toArray, List.getElem_cons_succ, List.getElem_cons_zero, List.setIfInBounds_toArray, List.set_cons_succ, List.set_cons_zero]
                    apply takeH (i := 16) 85 rfl (by kernel_rfl) (by kernel_rfl) (by kernel_rfl) (fun _ _ _ h => h) rfl (by first | exact HNOW.out | exact ⟨M.out.arg HX5.out, M.out.blk 0 rfl⟩)
                    case' hy =>
                      refine Or.inl ⟨by first | rfl | (go_simp; done), ?_⟩
                      intro w hS
                      clear hS
                      go_simp
                      try with_reducible rfl
                    try simp only [Act.put, List.getElem_toArray, List.getElem_cons_succ, List.getElem_cons_zero, List.setIfInBounds_toArray, List.set_cons_succ, List.set_cons_zero]
                    refine wpAnyH_done (by kernel_rfl) ?_ _
                all_goals
                  obtain ⟨q, hq⟩ : ∃ q, q = seek F p B m (left.without (netSet x)) (ns ++ [x]) (c + a) ⟨s'.tries + 1, s'.least, s'.best⟩ := ⟨_, rfl⟩
                  have HSQ := HSK.out q hq.symm
                  rw [hsk] at HSQ
                  have HT4 := HT3.out
                  rw [← hq] at HB2 HBest2 HT4
                  try rw [← hq]
                  have HSQ := Lib.hid HSQ
                  clear hq
                  cases hq1 : q.1
                  · try rw [hq1]
                    go_wp2
                    go_ret
                    have e9 := HSQ.out
                    rw [if_neg (by rw [hq1]; decide)] at e9
                    rw [e9]
                    exact ⟨bv2, (by show Ending.returned (.bool false) = _; rw [hq1]), HOW.out, HB2.out, HBest2.out⟩
                  · try rw [hq1]
                    go_wp2
                    have e9 := HSQ.out
                    rw [if_pos hq1] at e9
                    exact ⟨⟨i + 1, q.2, bv2, by omega, by go_num, HOW.out, HNOW.out.1, HB2.out, HBest2.out, HT4, e9.symm⟩, by simp [intOf]; omega⟩
          · have d1 : decide (0 ≤ s'.least) = false := decide_eq_false q1
            have hno : ¬ (0 ≤ s'.least ∧ s'.least ≤ c + netCost p x) := fun h => q1 h.1
            have HNO := Lib.hid hno
            clear hno
            refine region_anyH (fun w' => Mem wr w' [.blk g10 99 (covVals p x).toArray]) (by kernel_rfl) ?_
            have m := M.out.drew
            clear M
            have M := Lib.hid m
            clear m
            apply takeH (i := 0) 37 rfl (by kernel_rfl) (by kernel_rfl) (by kernel_rfl) (fun _ _ _ h => h) rfl (by first | exact M.out | exact M.out.take 1)
            case' hy =>
              refine Or.inl ⟨by first | rfl | (go_simp; done), ?_⟩
              intro w hS
              clear hS
              go_simp
              try with_reducible rfl
            try simp only [Act.put, List.getElem_toArray, List.getElem_cons_succ, List.getElem_cons_zero, List.setIfInBounds_toArray, List.set_cons_succ, List.set_cons_zero]
            apply takeH (i := 1) 38 rfl (by kernel_rfl) (by kernel_rfl) (by kernel_rfl) (fun _ _ _ h => h) rfl (by first | exact M.out | exact M.out.take 1)
            case' hy =>
              refine Or.inl ⟨by first | rfl | (go_simp; done), ?_⟩
              intro w hS
              clear hS
              go_simp
              try with_reducible rfl
            try simp only [Act.put, List.getElem_toArray, List.getElem_cons_succ, List.getElem_cons_zero, List.setIfInBounds_toArray, List.set_cons_succ, List.set_cons_zero]
            apply takeH (i := 2) 39 rfl (by kernel_rfl) (by kernel_rfl) (by kernel_rfl) (fun _ _ _ h => h) rfl (by first | exact M.out | exact M.out.take 1)
            case' hy =>
              refine Or.inl ⟨by first | rfl | (go_simp; done), ?_⟩
              intro w hS
              clear hS
              go_simp
              try with_reducible rfl
            try simp only [Act.put, List.getElem_toArray, List.getElem_cons_succ, List.getElem_cons_zero, List.setIfInBounds_toArray, List.set_cons_succ, List.set_cons_zero]
            apply takeH (i := 3) 40 rfl (by kernel_rfl) (by kernel_rfl) (by kernel_rfl) (fun _ _ _ h => h) rfl (by first | exact M.out | exact M.out.take 1)
            case' hy => exact ylds _ _ rfl rfl Try.underlying2 rfl rfl (fun w' hS => (hS.arg HB.out).cellv (i := 4) (v := .int .i64 s'.least) rfl)
            try simp only [Act.put, List.getElem_toArray, List.getElem_cons_succ, List.getElem_cons_zero, List.setIfInBounds_toArray, List.set_cons_succ, List.set_cons_zero]
            apply takeH (i := 4) 41 rfl (by kernel_rfl) (by kernel_rfl) (by kernel_rfl) (fun _ _ _ h => h) rfl (by first | exact M.out | exact M.out.take 1)
            case' hy =>
              refine Or.inl ⟨by first | rfl | (go_simp; done), ?_⟩
              intro w hS
              clear hS
              go_simp
              try with_reducible rfl
            try simp only [Act.put, List.getElem_toArray, List.getElem_cons_succ, List.getElem_cons_zero, List.setIfInBounds_toArray, List.set_cons_succ, List.set_cons_zero]
            apply takeH (i := 5) 42 rfl (by kernel_rfl) (by kernel_rfl) (by kernel_rfl) (fun _ _ _ h => h) rfl (by first | exact M.out | exact M.out.take 1)
            case' hy =>
              refine Or.inl ⟨by first | rfl | (go_simp; done), ?_⟩
              intro w hS
              clear hS
              go_simp
              try with_reducible rfl
            try simp only [Act.put, List.getElem_toArray, List.getElem_cons_succ, List.getElem_cons_zero, List.setIfInBounds_toArray, List.set_cons_succ, List.set_cons_zero]
            refine wpAnyH_take (i := 6) (v := undef) rfl (by kernel_rfl) (by kernel_rfl) (by kernel_rfl) (fun _ _ _ h => h) (Or.inr ⟨by kernel_rfl, rfl⟩) (by first | exact M.out | exact M.out.take 1) ?_
            try simp only [Act.put, List.getElem_toArray, List.getElem_cons_succ, List.getElem_cons_zero, List.setIfInBounds_toArray, List.set_cons_succ, List.set_cons_zero]
            refine wpAnyH_take (i := 7) (v := undef) rfl (by kernel_rfl) (by kernel_rfl) (by kernel_rfl) (fun _ _ _ h => h) (Or.inr ⟨by kernel_rfl, rfl⟩) (by first | exact M.out | exact M.out.take 1) ?_
            try simp only [Act.put, List.getElem_toArray, List.getElem_cons_succ, List.getElem_cons_zero, List.setIfInBounds_toArray, List.set_cons_succ, List.set_cons_zero]
            refine wpAnyH_take (i := 8) (v := undef) rfl (by kernel_rfl) (by kernel_rfl) (by kernel_rfl) (fun _ _ _ h => h) (Or.inr ⟨by kernel_rfl, rfl⟩) (by first | exact M.out | exact M.out.take 1) ?_
            try simp only [Act.put, List.getElem_toArray, List.getElem_cons_succ, List.getElem_cons_zero, List.setIfInBounds_toArray, List.set_cons_succ, List.set_cons_zero]
            refine wpAnyH_take (i := 9) (v := undef) rfl (by kernel_rfl) (by kernel_rfl) (by kernel_rfl) (fun _ _ _ h => h) (Or.inr ⟨by kernel_rfl, rfl⟩) (by first | exact M.out | exact M.out.take 1) ?_
            try simp only [Act.put, List.getElem_toArray, List.getElem_cons_succ, List.getElem_cons_zero, List.setIfInBounds_toArray, List.set_cons_succ, List.set_cons_zero]
            refine wpAnyH_take (i := 10) (v := undef) rfl (by kernel_rfl) (by kernel_rfl) (by kernel_rfl) (fun _ _ _ h => h) (Or.inr ⟨by kernel_rfl, rfl⟩) (by first | exact M.out | exact M.out.take 1) ?_
            try simp only [Act.put, List.getElem_toArray, List.getElem_cons_succ, List.getElem_cons_zero, List.setIfInBounds_toArray, List.set_cons_succ, List.set_cons_zero]
            refine wpAnyH_take (i := 11) (v := undef) rfl (by kernel_rfl) (by kernel_rfl) (by kernel_rfl) (fun _ _ _ h => h) (Or.inr ⟨by kernel_rfl, rfl⟩) (by first | exact M.out | exact M.out.take 1) ?_
            try simp only [Act.put, List.getElem_toArray, List.getElem_cons_succ, List.getElem_cons_zero, List.setIfInBounds_toArray, List.set_cons_succ, List.set_cons_zero]
            refine wpAnyH_take (i := 12) (v := undef) rfl (by kernel_rfl) (by kernel_rfl) (by kernel_rfl) (fun _ _ _ h => h) (Or.inr ⟨by kernel_rfl, rfl⟩) (by first | exact M.out | exact M.out.take 1) ?_
            try simp only [Act.put, List.getElem_toArray, List.getElem_cons_succ, List.getElem_cons_zero, List.setIfInBounds_toArray, List.set_cons_succ, List.set_cons_zero]
            refine wpAnyH_take (i := 13) (v := undef) rfl (by kernel_rfl) (by kernel_rfl) (by kernel_rfl) (fun _ _ _ h => h) (Or.inr ⟨by kernel_rfl, rfl⟩) (by first | exact M.out | exact M.out.take 1) ?_
            try simp only [Act.put, List.getElem_toArray, List.getElem_cons_succ, List.getElem_cons_zero, List.setIfInBounds_toArray, List.set_cons_succ, List.set_cons_zero]
            refine wpAnyH_take (i := 14) (v := undef) rfl (by kernel_rfl) (by kernel_rfl) (by kernel_rfl) (fun _ _ _ h => h) (Or.inr ⟨by kernel_rfl, rfl⟩) (by first | exact M.out | exact M.out.take 1) ?_
            try simp only [Act.put, List.getElem_toArray, List.getElem_cons_succ, List.getElem_cons_zero, List.setIfInBounds_toArray, List.set_cons_succ, List.set_cons_zero]
            apply takeH (i := 15) 52 rfl (by kernel_rfl) (by kernel_rfl) (by kernel_rfl) (fun _ _ _ h => h) rfl (by first | exact M.out | exact M.out.take 1)
            case' hy =>
              refine Or.inl ⟨by first | rfl | (go_simp; done), ?_⟩
              intro w hS
              clear hS
              go_simp
              try with_reducible rfl
            try simp only [Act.put, List.getElem_toArray, List.getElem_cons_succ, List.getElem_cons_zero, List.setIfInBounds_toArray, List.set_cons_succ, List.set_cons_zero]
            refine wpAnyH_done (by kernel_rfl) ?_ _
            go_wp2
            by_cases q3 : s'.tries = B
            · have q3b : ((s'.tries : Int) == (B : Int)) = true := by rw [beq_iff_eq, q3]
              have HSK := Lib.hid (skIn_out (p := p) (B := B) (r := L.drop (i + 1)) (rec := seek F p B m) (left := left) (ns := ns) HNO.out q3)
              refine region_anyH (fun w' => Mem wr w' [.blk g10 99 (covVals p x).toArray]) (by kernel_rfl) ?_
              have m := M.out.drew
              clear M
              have M := Lib.hid m
              clear m
              apply takeH (i := 0) 53 rfl (by kernel_rfl) (by kernel_rfl) (by kernel_rfl) (fun _ _ _ h => h) rfl (by first | exact M.out | exact M.out.take 1)
              case' hy =>
                refine Or.inl ⟨by first | rfl | (go_simp; done), ?_⟩
                intro w hS
                clear hS
                go_simp
                try with_reducible rfl
              try simp only [Act.put, List.getElem_toArray, List.getElem_cons_succ, List.getElem_cons_zero, List.setIfInBounds_toArray, List.set_cons_succ, List.set_cons_zero]
              apply takeH (i := 1) 54 rfl (by kernel_rfl) (by kernel_rfl) (by kernel_rfl) (fun _ _ _ h => h) rfl (by first | exact M.out | exact M.out.take 1)
              case' hy =>
                refine Or.inl ⟨by first | rfl | (go_simp; done), ?_⟩
                intro w hS
                clear hS
                go_simp
                try with_reducible rfl
              try simp only [Act.put, List.getElem_toArray, List.getElem_cons_succ, List.getElem_cons_zero, List.setIfInBounds_toArray, List.set_cons_succ, List.set_cons_zero]
              apply takeH (i := 2) 55 rfl (by kernel_rfl) (by kernel_rfl) (by kernel_rfl) (fun _ _ _ h => h) rfl (by first | exact M.out | exact M.out.take 1)
              case' hy =>
                refine Or.inl ⟨by first | rfl | (go_simp; done), ?_⟩
                intro w hS
                clear hS
                go_simp
                try with_reducible rfl
              try simp only [Act.put, List.getElem_toArray, List.getElem_cons_succ, List.getElem_cons_zero, List.setIfInBounds_toArray, List.set_cons_succ, List.set_cons_zero]
              apply takeH (i := 3) 56 rfl (by kernel_rfl) (by kernel_rfl) (by kernel_rfl) (fun _ _ _ h => h) rfl (by first | exact M.out | exact M.out.take 1)
              case' hy => exact ylds _ _ rfl rfl Try.underlying2 rfl rfl (fun w' hS => (hS.arg HB.out).cellv (i := 1) (v := .int .i64 s'.tries) rfl)
              try simp only [Act.put, List.getElem_toArray, List.getElem_cons_succ, List.getElem_cons_zero, List.setIfInBounds_toArray, List.set_cons_succ, List.set_cons_zero]
              apply takeH (i := 4) 57 rfl (by kernel_rfl) (by kernel_rfl) (by kernel_rfl) (fun _ _ _ h => h) rfl (by first | exact M.out | exact M.out.take 1)
              case' hy =>
                refine Or.inl ⟨by first | rfl | (go_simp; done), ?_⟩
                intro w hS
                clear hS
                go_simp
                try with_reducible rfl
              try simp only [Act.put, List.getElem_toArray, List.getElem_cons_succ, List.getElem_cons_zero, List.setIfInBounds_toArray, List.set_cons_succ, List.set_cons_zero]
              apply takeH (i := 5) 58 rfl (by kernel_rfl) (by kernel_rfl) (by kernel_rfl) (fun _ _ _ h => h) rfl (by first | exact M.out | exact M.out.take 1)
              case' hy =>
                refine Or.inl ⟨by first | rfl | (go_simp; done), ?_⟩
                intro w hS
                clear hS
                go_simp
                try with_reducible rfl
              try simp only [Act.put, List.getElem_toArray, List.getElem_cons_succ, List.getElem_cons_zero, List.setIfInBounds_toArray, List.set_cons_succ, List.set_cons_zero]
              apply takeH (i := 6) 59 rfl (by kernel_rfl) (by kernel_rfl) (by kernel_rfl) (fun _ _ _ h => h) rfl (by first | exact M.out | exact M.out.take 1)
              case' hy =>
                refine Or.inl ⟨by first | rfl | (go_simp; done), ?_⟩
                intro w hS
                clear hS
                go_simp
                try with_reducible rfl
              try simp only [Act.put, List.getElem_toArray, List.getElem_cons_succ, List.getElem_cons_zero, List.setIfInBounds_toArray, List.set_cons_succ, List.set_cons_zero]
              apply takeH (i := 7) 60 rfl (by kernel_rfl) (by kernel_rfl) (by kernel_rfl) (fun _ _ _ h => h) rfl (by first | exact M.out | exact M.out.take 1)
              case' hy => exact ylds _ _ rfl rfl Try.underlying2 rfl rfl (fun w' hS => (hS.arg HB.out).cellv (i := 2) (v := .int .i64 B) rfl)
              try simp only [Act.put, List.getElem_toArray, List.getElem_cons_succ, List.getElem_cons_zero, List.setIfInBounds_toArray, List.set_cons_succ, List.set_cons_zero]
              apply takeH (i := 8) 61 rfl (by kernel_rfl) (by kernel_rfl) (by kernel_rfl) (fun _ _ _ h => h) rfl (by first | exact M.out | exact M.out.take 1)
              case' hy =>
                refine Or.inl ⟨by first | rfl | (go_simp; done), ?_⟩
                intro w hS
                clear hS
                go_simp
                try with_reducible rfl
              try simp only [Act.put, List.getElem_toArray, List.getElem_cons_succ, List.getElem_cons_zero, List.setIfInBounds_toArray, List.set_cons_succ, List.set_cons_zero]
              refine wpAnyH_done (by kernel_rfl) ?_ _
              go_wp2
              go_ret
              refine ⟨bv', (by rw [← hsk]; exact congrArg (fun q => Ending.returned (.bool (Prod.fst q))) HSK.out.symm), HO.out.trans (M.out.oth sb), ?_, ?_⟩
              · rw [← hsk, HSK.out]; exact M.out.arg HB.out
              · rw [← hsk, HSK.out]; exact HBest.out.oth (M.out.oth sb)
            · have q3b : ((s'.tries : Int) == (B : Int)) = false := by rw [← Bool.not_eq_true, beq_iff_eq]; omega
              have HT3 := Lib.hid (seek_tries (F := F) (p := p) (B := B) m (left.without (netSet x)) (ns ++ [x]) (c + a) ⟨s'.tries + 1, s'.least, s'.best⟩ (by show s'.tries + 1 ≤ B; omega))
              have HSK := Lib.hid (fun q hq => skIn_in (p := p) (B := B) (r := L.drop (i + 1)) (rec := seek F p B m) (left := left) (ns := ns) (q := q) HNO.out q3 hq)
              rw [← HA.out] at HSK
              refine region_anyH (fun w' => Mem wr w' [.blk g10 99 (covVals p x).toArray]) (by kernel_rfl) ?_
              have m := M.out.drew
              clear M
              have M := Lib.hid m
              clear m
              apply takeH (i := 0) 53 rfl (by kernel_rfl) (by kernel_rfl) (by kernel_rfl) (fun _ _ _ h => h) rfl (by first | exact M.out | exact M.out.take 1)
              case' hy =>
                refine Or.inl ⟨by first | rfl | (go_simp; done), ?_⟩
                intro w hS
                clear hS
                go_simp
                try with_reducible rfl
              try simp only [Act.put, List.getElem_toArray, List.getElem_cons_succ, List.getElem_cons_zero, List.setIfInBounds_toArray, List.set_cons_succ, List.set_cons_zero]
              apply takeH (i := 1) 54 rfl (by kernel_rfl) (by kernel_rfl) (by kernel_rfl) (fun _ _ _ h => h) rfl (by first | exact M.out | exact M.out.take 1)
              case' hy =>
                refine Or.inl ⟨by first | rfl | (go_simp; done), ?_⟩
                intro w hS
                clear hS
                go_simp
                try with_reducible rfl
              try simp only [Act.put, List.getElem_toArray, List.getElem_cons_succ, List.getElem_cons_zero, List.setIfInBounds_toArray, List.set_cons_succ, List.set_cons_zero]
              apply takeH (i := 2) 55 rfl (by kernel_rfl) (by kernel_rfl) (by kernel_rfl) (fun _ _ _ h => h) rfl (by first | exact M.out | exact M.out.take 1)
              case' hy =>
                refine Or.inl ⟨by first | rfl | (go_simp; done), ?_⟩
                intro w hS
                clear hS
                go_simp
                try with_reducible rfl
              try simp only [Act.put, List.getElem_toArray, List.getElem_cons_succ, List.getElem_cons_zero, List.setIfInBounds_toArray, List.set_cons_succ, List.set_cons_zero]
              apply takeH (i := 3) 56 rfl (by kernel_rfl) (by kernel_rfl) (by kernel_rfl) (fun _ _ _ h => h) rfl (by first | exact M.out | exact M.out.take 1)
              case' hy => exact ylds _ _ rfl rfl Try.underlying2 rfl rfl (fun w' hS => (hS.arg HB.out).cellv (i := 1) (v := .int .i64 s'.tries) rfl)
              try simp only [Act.put, List.getElem_toArray, List.getElem_cons_succ, List.getElem_cons_zero, List.setIfInBounds_toArray, List.set_cons_succ, List.set_cons_zero]
              apply takeH (i := 4) 57 rfl (by kernel_rfl) (by kernel_rfl) (by kernel_rfl) (fun _ _ _ h => h) rfl (by first | exact M.out | exact M.out.take 1)
              case' hy =>
                refine Or.inl ⟨by first | rfl | (go_simp; done), ?_⟩
                intro w hS
                clear hS
                go_simp
                try with_reducible rfl
              try simp only [Act.put, List.getElem_toArray, List.getElem_cons_succ, List.getElem_cons_zero, List.setIfInBounds_toArray, List.set_cons_succ, List.set_cons_zero]
              apply takeH (i := 5) 58 rfl (by kernel_rfl) (by kernel_rfl) (by kernel_rfl) (fun _ _ _ h => h) rfl (by first | exact M.out | exact M.out.take 1)
              case' hy =>
                refine Or.inl ⟨by first | rfl | (go_simp; done), ?_⟩
                intro w hS
                clear hS
                go_simp
                try with_reducible rfl
              try simp only [Act.put, List.getElem_toArray, List.getElem_cons_succ, List.getElem_cons_zero, List.setIfInBounds_toArray, List.set_cons_succ, List.set_cons_zero]
              apply takeH (i := 6) 59 rfl (by kernel_rfl) (by kernel_rfl) (by kernel_rfl) (fun _ _ _ h => h) rfl (by first | exact M.out | exact M.out.take 1)
              case' hy =>
                refine Or.inl ⟨by first | rfl | (go_simp; done), ?_⟩
                intro w hS
                clear hS
                go_simp
                try with_reducible rfl
              try simp only [Act.put, List.getElem_toArray, List.getElem_cons_succ, List.getElem_cons_zero, List.setIfInBounds_toArray, List.set_cons_succ, List.set_cons_zero]
              apply takeH (i := 7) 60 rfl (by kernel_rfl) (by kernel_rfl) (by kernel_rfl) (fun _ _ _ h => h) rfl (by first | exact M.out | exact M.out.take 1)
              case' hy => exact ylds _ _ rfl rfl Try.underlying2 rfl rfl (fun w' hS => (hS.arg HB.out).cellv (i := 2) (v := .int .i64 B) rfl)
              try simp only [Act.put, List.getElem_toArray, List.getElem_cons_succ, List.getElem_cons_zero, List.setIfInBounds_toArray, List.set_cons_succ, List.set_cons_zero]
              apply takeH (i := 8) 61 rfl (by kernel_rfl) (by kernel_rfl) (by kernel_rfl) (fun _ _ _ h => h) rfl (by first | exact M.out | exact M.out.take 1)
              case' hy =>
                refine Or.inl ⟨by first | rfl | (go_simp; done), ?_⟩
                intro w hS
                clear hS
                go_simp
                try with_reducible rfl
              try simp only [Act.put, List.getElem_toArray, List.getElem_cons_succ, List.getElem_cons_zero, List.setIfInBounds_toArray, List.set_cons_succ, List.set_cons_zero]
              refine wpAnyH_done (by kernel_rfl) ?_ _
              go_wp2_with (first
                | ((with_reducible refine gate_dst (N := 65) rfl ?_); go_must (refine ev_get _ _ rfl rfl ((M.out.arg HB.out).cellv (i := 1) (v := .int .i64 s'.tries) rfl) Try.underlying2 rfl rfl ?_))
                | ((with_reducible refine gate_store (x := .tmp 68) rfl ?_); go_must (refine M.out.ev_poke _ _ _ rfl rfl HB.out rfl _ rfl (by simp [shc]) sz2 rfl rfl ?_); intro v68 w68 m ho68 hb68; have M := Lib.hid m; clear m; have HO68 := Lib.hid ho68; have HX68 := Lib.hid hb68; clear ho68 hb68)
                )
              have hlt68 : sb < v68.heap.size := HX68.out.lt
              have HLT := Lib.hid hlt68
              have hg10 : g10 ≠ sb := by
                have := hS10.base 0 rfl
                omega
              have HG10 := Lib.hid hg10
              have HO68b := HO68
              have HOX := Lib.hid (HO.out.trans HO68.out)
              have HX5 := Lib.hid (HO68.out.blk HB5.out HG5.out)
              clear hS10 hlt68 hg10
              refine region_anyH (fun w' => (Blk w' g5 39 left.cells ∧ Blk w' g10 99 (covVals p x).toArray)) (by kernel_rfl) ?_
              have m := M.out.drew
              clear M
              have M := Lib.hid m
              clear m
              apply takeH (i := 0) 69 rfl (by kernel_rfl) (by kernel_rfl) (by kernel_rfl) (fun _ _ _ h => h) rfl (by first | exact HNOW.out | exact ⟨M.out.arg HX5.out, M.out.blk 0 rfl⟩)
              case' hy =>
                refine Or.inl ⟨by first | rfl | (go_simp; done), ?_⟩
                intro w hS
                clear hS
                go_simp
                try with_reducible rfl
              try simp only [Act.put, List.getElem_toArray, List.getElem_cons_succ, List.getElem_cons_zero, List.setIfInBounds_toArray, List.set_cons_succ, List.set_cons_zero]
              apply takeH (i := 1) 70 rfl (by kernel_rfl) (by kernel_rfl) (by kernel_rfl) (fun _ _ _ h => h) rfl (by first | exact HNOW.out | exact ⟨M.out.arg HX5.out, M.out.blk 0 rfl⟩)
              case' hy => exact yldw _ _ rfl rfl Try.underlying39 rfl (by first | exact sz39 | (rw [S1.out]; exact sz39) | (rw [S2.out]; exact sz39) | (rw [S3.out]; exact sz39)) rfl (fun w' hS => hS.1)
              try simp only [Act.put, List.getElem_toArray, List.getElem_cons_succ, List.getElem_cons_zero, List.setIfInBounds_toArray, List.set_cons_succ, List.set_cons_zero]
              apply takeH (i := 2) 71 rfl (by kernel_rfl) (by kernel_rfl) (by kernel_rfl) (fun _ _ _ h => h) rfl (by first | exact HNOW.out | exact ⟨M.out.arg HX5.out, M.out.blk 0 rfl⟩)
              case' hy =>
                refine Or.inl ⟨by first | rfl | (go_simp; done), ?_⟩
                intro w hS
                clear hS
                go_simp
                try with_reducible rfl
              try simp only [Act.put, List.getElem_toArray, List.getElem_cons_succ, List.getElem_cons_zero, List.setIfInBounds_toArray, List.set_cons_succ, List.set_cons_zero]
              apply takeH (i := 3) 72 rfl (by kernel_rfl) (by kernel_rfl) (by kernel_rfl) (fun _ _ _ h => h) rfl (by first | exact HNOW.out | exact ⟨M.out.arg HX5.out, M.out.blk 0 rfl⟩)
              case' hy => exact yieldsIf_load_mid (by first | rfl | (go_simp; done)) _ _ rfl _ _ rfl _ _ (fun w' hS => blk_range hS.2 4 [Value.int .u64 (netSet x).lo, Value.int .u64 (netSet x).hi] (cov_set p x)) Try.underlying39 rfl sz39
              try simp only [Act.put, List.getElem_toArray, List.getElem_cons_succ, List.getElem_cons_zero, List.setIfInBounds_toArray, List.set_cons_succ, List.set_cons_zero]
              apply takeH (i := 5) 74 rfl (by kernel_rfl) (by kernel_rfl) (by kernel_rfl) (fun _ _ _ h => h) rfl (by first | exact HNOW.out | exact ⟨M.out.arg HX5.out, M.out.blk 0 rfl⟩)
              case' hy =>
                refine Or.inl ⟨by first | rfl | (go_simp; done), ?_⟩
                intro w hS
                clear hS
                go_simp
                try with_reducible rfl
              try simp only [Act.put, List.getElem_toArray, List.getElem_cons_succ, List.getElem_cons_zero, List.setIfInBounds_toArray, List.set_cons_succ, List.set_cons_zero]
              apply takeH (i := 7) 76 rfl (by kernel_rfl) (by kernel_rfl) (by kernel_rfl) (fun _ _ _ h => h) rfl (by first | exact HNOW.out | exact ⟨M.out.arg HX5.out, M.out.blk 0 rfl⟩)
              case' hy =>
                refine Or.inl ⟨by first | rfl | (go_simp; done), ?_⟩
                intro w hS
                clear hS
                go_simp
                try with_reducible rfl
              try simp only [Act.put, List.getElem_toArray, List.getElem_cons_succ, List.getElem_cons_zero, List.setIfInBounds_toArray, List.set_cons_succ, List.set_cons_zero]
              apply takeH (i := 8) 77 rfl (by kernel_rfl) (by kernel_rfl) (by kernel_rfl) (fun _ _ _ h => h) rfl (by first | exact HNOW.out | exact ⟨M.out.arg HX5.out, M.out.blk 0 rfl⟩)
              case' hy => exact yieldsIf_load_mid (by first | rfl | (go_simp; done)) _ _ rfl _ _ rfl _ _ (fun w' hS => blk_range hS.2 0 (Net.vals x) (cov_net p x)) Try.underlying65 rfl sz65
              try simp only [Act.put, List.getElem_toArray, List.getElem_cons_succ, List.getElem_cons_zero, List.setIfInBounds_toArray, List.set_cons_succ, List.set_cons_zero]
              apply takeH (i := 11) 80 rfl (by kernel_rfl) (by kernel_rfl) (by kernel_rfl) (fun _ _ _ h => h) rfl (by first | exact HNOW.out | exact ⟨M.out.arg HX5.out, M.out.blk 0 rfl⟩)
              case' hy =>
                refine Or.inl ⟨by first | rfl | (go_simp; done), ?_⟩
                intro w hS
                clear hS
                go_simp
                try with_reducible rfl
              try simp only [Act.put, List.getElem_toArray, List.getElem_cons_succ, List.getElem_cons_zero, List.setIfInBounds_toArray, List.set_cons_succ, List.set_cons_zero]
              apply takeH (i := 12) 81 rfl (by kernel_rfl) (by kernel_rfl) (by kernel_rfl) (fun _ _ _ h => h) rfl (by first | exact HNOW.out | exact ⟨M.out.arg HX5.out, M.out.blk 0 rfl⟩)
              case' hy =>
                refine Or.inl ⟨by first | rfl | (go_simp; done), ?_⟩
                intro w hS
                clear hS
                go_simp
                try with_reducible rfl
              try simp only [Act.put, List.getElem_toArray, List.getElem_cons_succ, List.getElem_cons_zero, List.setIfInBounds_toArray, List.set_cons_succ, List.set_cons_zero]
              apply takeH (i := 13) 82 rfl (by kernel_rfl) (by kernel_rfl) (by kernel_rfl) (fun _ _ _ h => h) rfl (by first | exact HNOW.out | exact ⟨M.out.arg HX5.out, M.out.blk 0 rfl⟩)
              case' hy => exact ylds _ _ rfl rfl Try.underlying2 rfl rfl (fun w' hS => hS.2.cellv (i := 6) VC.out)
              try simp only [Act.put, List.getElem_toArray, List.getElem_cons_succ, List.getElem_cons_zero, List.setIfInBounds_toArray, List.set_cons_succ, List.set_cons_zero]
              apply takeH (i := 14) 83 rfl (by kernel_rfl) (by kernel_rfl) (by kernel_rfl) (fun _ _ _ h => h) rfl (by first | exact HNOW.out | exact ⟨M.out.arg HX5.out, M.out.blk 0 rfl⟩)
              case' hy =>
                refine Or.inl ⟨by first | rfl | (go_simp; done), ?_⟩
                intro w hS
                clear hS
                go_simp
                try with_reducible rfl
              try simp only [Act.put, List.getElem_toArray, List.getElem_cons_succ, List.getElem_cons_zero, List.setIfInBounds_toArray, List.set_cons_succ, List.set_cons_zero]
              refine any2H 4 9 (by kernel_rfl) rfl rfl (fun K hK => ?_) (fun K hK => ?_)
              rotate_right 1
              case' _ =>
                go_wp2_with (first | ((with_reducible refine gate_dst (N := 70) rfl ?_); go_must (refine M.out.ev_ldw 0 _ _ rfl rfl rfl Try.underlying39 rfl (by first | exact sz39 | (rw [S1.out]; exact sz39) | (rw [S2.out]; exact sz39) | (rw [S3.out]; exact sz39)) rfl ?_)) | ((with_reducible refine gate_dst (N := 72) rfl ?_); go_must (refine M.out.ev_ldm 0 _ _ rfl rfl rfl _ _ (by first | exact Fld.cellsK LF.out | exact Fld.cellsS LF.out | assumption) Try.underlying39 rfl (by first | (rw [List.length_map, LF.out.kl]; exact sz39) | (rw [List.length_map, LF.out.sl]; exact sz39) | exact sz39) rfl ?_)) | ((with_reducible refine gate_dst (N := 77) rfl ?_); go_must (refine M.out.ev_ldm 0 _ _ rfl rfl rfl _ _ (by first | exact Fld.cellsK LF.out | exact Fld.cellsS LF.out | assumption) Try.underlying65 rfl (by first | (rw [List.length_map, LF.out.kl]; exact sz65) | (rw [List.length_map, LF.out.sl]; exact sz65) | exact sz65) rfl ?_)) | ((with_reducible refine gate_dst (N := 82) rfl ?_); go_must (refine M.out.ev_ld 0 _ _ rfl rfl rfl Try.underlying2 rfl rfl (by first | assumption | rfl) ?_)) | (go_at_call 84; go_must (refine (WithoutOf_any _ _ _).mono ?_); rintro e w_ ⟨rfl, N_⟩; have m := M.out.join N_; clear N_; simp only [List.cons_append, List.nil_append, List.append_nil] at m; have M := Lib.hid m; clear m) | (go_at_call 83; go_must (refine (cloneNet_any A cap ns (by have := H.out.nl; omega) H.out.room H.out.empt _ (H.out.sl _ (HOX.out.trans (M.out.oth sb)))).mono ?_); rintro e w_ ⟨A_, c_, rfl, hc_, N_⟩; have m := M.out.join N_; clear N_; simp only [List.cons_append, List.nil_append, List.append_nil] at m; have M := Lib.hid m; clear m) | ((with_reducible refine gate_dst (N := 78) rfl ?_); go_must (refine M.out.ev_bs1 elem_Net rfl _ rfl x.vals.toArray rfl rfl (by decide) ?_); intro g78 w78 m; simp only [List.cons_append, List.nil_append] at m; have M := Lib.hid m; clear m) | ((with_reducible refine gate_dst (N := 79) rfl ?_); go_must (first | (refine M.out.ev_append1 1 2 elem_Net rfl _ _ rfl rfl rfl rfl rfl rfl (Net.one x) (by have := H.out.nl; omega) (by decide) ?_; intro v79 w79 m; simp only [List.set_cons_succ, List.set_cons_zero] at m; obtain ⟨B79, c79, rfl, hc79, _⟩ := m.row_slice 1 rfl; have HIN := Lib.hid (H.out.next hg HZ.out HM.out (s' := s') (bv' := bv') (v := v68) (HOX.out.trans (m.oth sb)) (m.arg HX68.out) (HBest.out.oth (HO68b.out.trans (m.oth sb))) (by omega) (m.row 1 rfl) HLT.out hc79 (m.row_none 1 rfl))) | (refine M.out.ev_append1 2 1 elem_Net rfl _ _ rfl rfl rfl rfl rfl rfl (Net.one x) (by have := H.out.nl; omega) (by decide) ?_; intro v79 w79 m; simp only [List.set_cons_succ, List.set_cons_zero] at m; obtain ⟨B79, c79, rfl, hc79, _⟩ := m.row_slice 2 rfl; have HIN := Lib.hid (H.out.next hg HZ.out HM.out (s' := s') (bv' := bv') (v := v68) (HOX.out.trans (m.oth sb)) (m.arg HX68.out) (HBest.out.oth (HO68b.out.trans (m.oth sb))) (by omega) (m.row 2 rfl) HLT.out hc79 (m.row_none 2 rfl)))); rw [← HA.out] at HIN; have M := Lib.hid m; clear m) | (go_at_call 48; go_must (refine (IH.out _ _ _ _ _ _ _ _ _ HIN.out).mono ?_); rintro e w_ ⟨bv2, rfl, ho2, hb2, hbest2⟩; have HNOW := Lib.hid (show (Blk w_ g5 39 left.cells ∧ Blk w_ g10 99 (covVals p x).toArray) from ⟨ho2.blk (M.out.arg HX5.out) HG5.out, ho2.blk (M.out.blk 0 rfl) HG10.out⟩); have HOW := Lib.hid (HOX.out.trans ((M.out.oth sb).trans ho2)); have HB2 := Lib.hid hb2; have HBest2 := Lib.hid hbest2; clear ho2 hb2 hbest2))
                refine onward_normal (hK _ _ ⟨(by first | exact HNOW.out | exact ⟨M.out.arg HX5.out, M.out.blk 0 rfl⟩), ?_⟩)
                clear hK K
                try simp only [Act.put, List.getElem_toArray, List.getElem_cons_succ, List.getElem_cons_zero, List.setIfInBounds_toArray, List.set_cons_succ, List.set_cons_zero]
                refine any1H 4 (by kernel_rfl) rfl (fun K hK => ?_)
                go_wp2_with (first | ((with_reducible refine gate_dst (N := 70) rfl ?_); go_must (refine M.out.ev_ldw 0 _ _ rfl rfl rfl Try.underlying39 rfl (by first | exact sz39 | (rw [S1.out]; exact sz39) | (rw [S2.out]; exact sz39) | (rw [S3.out]; exact sz39)) rfl ?_)) | ((with_reducible refine gate_dst (N := 72) rfl ?_); go_must (refine M.out.ev_ldm 0 _ _ rfl rfl rfl _ _ (by first | exact Fld.cellsK LF.out | exact Fld.cellsS LF.out | assumption) Try.underlying39 rfl (by first | (rw [List.length_map, LF.out.kl]; exact sz39) | (rw [List.length_map, LF.out.sl]; exact sz39) | exact sz39) rfl ?_)) | ((with_reducible refine gate_dst (N := 77) rfl ?_); go_must (refine M.out.ev_ldm 0 _ _ rfl rfl rfl _ _ (by first | exact Fld.cellsK LF.out | exact Fld.cellsS LF.out | assumption) Try.underlying65 rfl (by first | (rw [List.length_map, LF.out.kl]; exact sz65) | (rw [List.length_map, LF.out.sl]; exact sz65) | exact sz65) rfl ?_)) | ((with_reducible refine gate_dst (N := 82) rfl ?_); go_must (refine M.out.ev_ld 0 _ _ rfl rfl rfl Try.underlying2 rfl rfl (by first | assumption | rfl) ?_)) | (go_at_call 84; go_must (refine (WithoutOf_any _ _ _).mono ?_); rintro e w_ ⟨rfl, N_⟩; have m := M.out.join N_; clear N_; simp only [List.cons_append, List.nil_append, List.append_nil] at m; have M := Lib.hid m; clear m) | (go_at_call 83; go_must (refine (cloneNet_any A cap ns (by have := H.out.nl; omega) H.out.room H.out.empt _ (H.out.sl _ (HOX.out.trans (M.out.oth sb)))).mono ?_); rintro e w_ ⟨A_, c_, rfl, hc_, N_⟩; have m := M.out.join N_; clear N_; simp only [List.cons_append, List.nil_append, List.append_nil] at m; have M := Lib.hid m; clear m) | ((with_reducible refine gate_dst (N := 78) rfl ?_); go_must (refine M.out.ev_bs1 elem_Net rfl _ rfl x.vals.toArray rfl rfl (by decide) ?_); intro g78 w78 m; simp only [List.cons_append, List.nil_append] at m; have M := Lib.hid m; clear m) | ((with_reducible refine gate_dst (N := 79) rfl ?_); go_must (first | (refine M.out.ev_append1 1 2 elem_Net rfl _ _ rfl rfl rfl rfl rfl rfl (Net.one x) (by have := H.out.nl; omega) (by decide) ?_; intro v79 w79 m; simp only [List.set_cons_succ, List.set_cons_zero] at m; obtain ⟨B79, c79, rfl, hc79, _⟩ := m.row_slice 1 rfl; have HIN := Lib.hid (H.out.next hg HZ.out HM.out (s' := s') (bv' := bv') (v := v68) (HOX.out.trans (m.oth sb)) (m.arg HX68.out) (HBest.out.oth (HO68b.out.trans (m.oth sb))) (by omega) (m.row 1 rfl) HLT.out hc79 (m.row_none 1 rfl))) | (refine M.out.ev_append1 2 1 elem_Net rfl _ _ rfl rfl rfl rfl rfl rfl (Net.one x) (by have := H.out.nl; omega) (by decide) ?_; intro v79 w79 m; simp only [List.set_cons_succ, List.set_cons_zero] at m; obtain ⟨B79, c79, rfl, hc79, _⟩ := m.row_slice 2 rfl; have HIN := Lib.hid (H.out.next hg HZ.out HM.out (s' := s') (bv' := bv') (v := v68) (HOX.out.trans (m.oth sb)) (m.arg HX68.out) (HBest.out.oth (HO68b.out.trans (m.oth sb))) (by omega) (m.row 2 rfl) HLT.out hc79 (m.row_none 2 rfl)))); rw [← HA.out] at HIN; have M := Lib.hid m; clear m) | (go_at_call 48; go_must (refine (IH.out _ _ _ _ _ _ _ _ _ HIN.out).mono ?_); rintro e w_ ⟨bv2, rfl, ho2, hb2, hbest2⟩; have HNOW := Lib.hid (show (Blk w_ g5 39 left.cells ∧ Blk w_ g10 99 (covVals p x).toArray) from ⟨ho2.blk (M.out.arg HX5.out) HG5.out, ho2.blk (M.out.blk 0 rfl) HG10.out⟩); have HOW := Lib.hid (HOX.out.trans ((M.out.oth sb).trans ho2)); have HB2 := Lib.hid hb2; have HBest2 := Lib.hid hbest2; clear ho2 hb2 hbest2))
                refine onward_normal (hK _ _ ⟨(by first | exact HNOW.out | exact ⟨M.out.arg HX5.out, M.out.blk 0 rfl⟩), ?_⟩)
                clear hK K
                try simp only [Act.put, List.getElem_toArray, List.getElem_cons_succ, List.getElem_cons_zero, List.setIfInBounds_toArray, List.set_cons_succ, List.set_cons_zero]
                refine any1H 6 (by kernel_rfl) rfl (fun K hK => ?_)
                go_wp2_with (first | ((with_reducible refine gate_dst (N := 70) rfl ?_); go_must (refine M.out.ev_ldw 0 _ _ rfl rfl rfl Try.underlying39 rfl (by first | exact sz39 | (rw [S1.out]; exact sz39) | (rw [S2.out]; exact sz39) | (rw [S3.out]; exact sz39)) rfl ?_)) | ((with_reducible refine gate_dst (N := 72) rfl ?_); go_must (refine M.out.ev_ldm 0 _ _ rfl rfl rfl _ _ (by first | exact Fld.cellsK LF.out | exact Fld.cellsS LF.out | assumption) Try.underlying39 rfl (by first | (rw [List.length_map, LF.out.kl]; exact sz39) | (rw [List.length_map, LF.out.sl]; exact sz39) | exact sz39) rfl ?_)) | ((with_reducible refine gate_dst (N := 77) rfl ?_); go_must (refine M.out.ev_ldm 0 _ _ rfl rfl rfl _ _ (by first | exact Fld.cellsK LF.out | exact Fld.cellsS LF.out | assumption) Try.underlying65 rfl (by first | (rw [List.length_map, LF.out.kl]; exact sz65) | (rw [List.length_map, LF.out.sl]; exact sz65) | exact sz65) rfl ?_)) | ((with_reducible refine gate_dst (N := 82) rfl ?_); go_must (refine M.out.ev_ld 0 _ _ rfl rfl rfl Try.underlying2 rfl rfl (by first | assumption | rfl) ?_)) | (go_at_call 84; go_must (refine (WithoutOf_any _ _ _).mono ?_); rintro e w_ ⟨rfl, N_⟩; have m := M.out.join N_; clear N_; simp only [List.cons_append, List.nil_append, List.append_nil] at m; have M := Lib.hid m; clear m) | (go_at_call 83; go_must (refine (cloneNet_any A cap ns (by have := H.out.nl; omega) H.out.room H.out.empt _ (H.out.sl _ (HOX.out.trans (M.out.oth sb)))).mono ?_); rintro e w_ ⟨A_, c_, rfl, hc_, N_⟩; have m := M.out.join N_; clear N_; simp only [List.cons_append, List.nil_append, List.append_nil] at m; have M := Lib.hid m; clear m) | ((with_reducible refine gate_dst (N := 78) rfl ?_); go_must (refine M.out.ev_bs1 elem_Net rfl _ rfl x.vals.toArray rfl rfl (by decide) ?_); intro g78 w78 m; simp only [List.cons_append, List.nil_append] at m; have M := Lib.hid m; clear m) | ((with_reducible refine gate_dst (N := 79) rfl ?_); go_must (first | (refine M.out.ev_append1 1 2 elem_Net rfl _ _ rfl rfl rfl rfl rfl rfl (Net.one x) (by have := H.out.nl; omega) (by decide) ?_; intro v79 w79 m; simp only [List.set_cons_succ, List.set_cons_zero] at m; obtain ⟨B79, c79, rfl, hc79, _⟩ := m.row_slice 1 rfl; have HIN := Lib.hid (H.out.next hg HZ.out HM.out (s' := s') (bv' := bv') (v := v68) (HOX.out.trans (m.oth sb)) (m.arg HX68.out) (HBest.out.oth (HO68b.out.trans (m.oth sb))) (by omega) (m.row 1 rfl) HLT.out hc79 (m.row_none 1 rfl))) | (refine M.out.ev_append1 2 1 elem_Net rfl _ _ rfl rfl rfl rfl rfl rfl (Net.one x) (by have := H.out.nl; omega) (by decide) ?_; intro v79 w79 m; simp only [List.set_cons_succ, List.set_cons_zero] at m; obtain ⟨B79, c79, rfl, hc79, _⟩ := m.row_slice 2 rfl; have HIN := Lib.hid (H.out.next hg HZ.out HM.out (s' := s') (bv' := bv') (v := v68) (HOX.out.trans (m.oth sb)) (m.arg HX68.out) (HBest.out.oth (HO68b.out.trans (m.oth sb))) (by omega) (m.row 2 rfl) HLT.out hc79 (m.row_none 2 rfl)))); rw [← HA.out] at HIN; have M := Lib.hid m; clear m) | (go_at_call 48; go_must (refine (IH.out _ _ _ _ _ _ _ _ _ HIN.out).mono ?_); rintro e w_ ⟨bv2, rfl, ho2, hb2, hbest2⟩; have HNOW := Lib.hid (show (Blk w_ g5 39 left.cells ∧ Blk w_ g10 99 (covVals p x).toArray) from ⟨ho2.blk (M.out.arg HX5.out) HG5.out, ho2.blk (M.out.blk 0 rfl) HG10.out⟩); have HOW := Lib.hid (HOX.out.trans ((M.out.oth sb).trans ho2)); have HB2 := Lib.hid hb2; have HBest2 := Lib.hid hbest2; clear ho2 hb2 hbest2))
                refine onward_normal (hK _ _ ⟨(by first | exact HNOW.out | exact ⟨M.out.arg HX5.out, M.out.blk 0 rfl⟩), ?_⟩)
                clear hK K
                try simp only [Act.put, List.getElem_toArray, List.getElem_cons_succ, List.getElem_cons_zero, List.setIfInBounds_toArray, List.set_cons_succ, List.set_cons_zero]
                refine any1H 10 (by kernel_rfl) rfl (fun K hK => ?_)
                go_wp2_with (first | ((with_reducible refine gate_dst (N := 70) rfl ?_); go_must (refine M.out.ev_ldw 0 _ _ rfl rfl rfl Try.underlying39 rfl (by first | exact sz39 | (rw [S1.out]; exact sz39) | (rw [S2.out]; exact sz39) | (rw [S3.out]; exact sz39)) rfl ?_)) | ((with_reducible refine gate_dst (N := 72) rfl ?_); go_must (refine M.out.ev_ldm 0 _ _ rfl rfl rfl _ _ (by first | exact Fld.cellsK LF.out | exact Fld.cellsS LF.out | assumption) Try.underlying39 rfl (by first | (rw [List.length_map, LF.out.kl]; exact sz39) | (rw [List.length_map, LF.out.sl]; exact sz39) | exact sz39) rfl ?_)) | ((with_reducible refine gate_dst (N := 77) rfl ?_); go_must (refine M.out.ev_ldm 0 _ _ rfl rfl rfl _ _ (by first | exact Fld.cellsK LF.out | exact Fld.cellsS LF.out | assumption) Try.underlying65 rfl (by first | (rw [List.length_map, LF.out.kl]; exact sz65) | (rw [List.length_map, LF.out.sl]; exact sz65) | exact sz65) rfl ?_)) | ((with_reducible refine gate_dst (N := 82) rfl ?_); go_must (refine M.out.ev_ld 0 _ _ rfl rfl rfl Try.underlying2 rfl rfl (by first | assumption | rfl) ?_)) | (go_at_call 84; go_must (refine (WithoutOf_any _ _ _).mono ?_); rintro e w_ ⟨rfl, N_⟩; have m := M.out.join N_; clear N_; simp only [List.cons_append, List.nil_append, List.append_nil] at m; have M := Lib.hid m; clear m) | (go_at_call 83; go_must (refine (cloneNet_any A cap ns (by have := H.out.nl; omega) H.out.room H.out.empt _ (H.out.sl _ (HOX.out.trans (M.out.oth sb)))).mono ?_); rintro e w_ ⟨A_, c_, rfl, hc_, N_⟩; have m := M.out.join N_; clear N_; simp only [List.cons_append, List.nil_append, List.append_nil] at m; have M := Lib.hid m; clear m) | ((with_reducible refine gate_dst (N := 78) rfl ?_); go_must (refine M.out.ev_bs1 elem_Net rfl _ rfl x.vals.toArray rfl rfl (by decide) ?_); intro g78 w78 m; simp only [List.cons_append, List.nil_append] at m; have M := Lib.hid m; clear m) | ((with_reducible refine gate_dst (N := 79) rfl ?_); go_must (first | (refine M.out.ev_append1 1 2 elem_Net rfl _ _ rfl rfl rfl rfl rfl rfl (Net.one x) (by have := H.out.nl; omega) (by decide) ?_; intro v79 w79 m; simp only [List.set_cons_succ, List.set_cons_zero] at m; obtain ⟨B79, c79, rfl, hc79, _⟩ := m.row_slice 1 rfl; have HIN := Lib.hid (H.out.next hg HZ.out HM.out (s' := s') (bv' := bv') (v := v68) (HOX.out.trans (m.oth sb)) (m.arg HX68.out) (HBest.out.oth (HO68b.out.trans (m.oth sb))) (by omega) (m.row 1 rfl) HLT.out hc79 (m.row_none 1 rfl))) | (refine M.out.ev_append1 2 1 elem_Net rfl _ _ rfl rfl rfl rfl rfl rfl (Net.one x) (by have := H.out.nl; omega) (by decide) ?_; intro v79 w79 m; simp only [List.set_cons_succ, List.set_cons_zero] at m; obtain ⟨B79, c79, rfl, hc79, _⟩ := m.row_slice 2 rfl; have HIN := Lib.hid (H.out.next hg HZ.out HM.out (s' := s') (bv' := bv') (v := v68) (HOX.out.trans (m.oth sb)) (m.arg HX68.out) (HBest.out.oth (HO68b.out.trans (m.oth sb))) (by omega) (m.row 2 rfl) HLT.out hc79 (m.row_none 2 rfl)))); rw [← HA.out] at HIN; have M := Lib.hid m; clear m) | (go_at_call 48; go_must (refine (IH.out _ _ _ _ _ _ _ _ _ HIN.out).mono ?_); rintro e w_ ⟨bv2, rfl, ho2, hb2, hbest2⟩; have HNOW := Lib.hid (show (Blk w_ g5 39 left.cells ∧ Blk w_ g10 99 (covVals p x).toArray) from ⟨ho2.blk (M.out.arg HX5.out) HG5.out, ho2.blk (M.out.blk 0 rfl) HG10.out⟩); have HOW := Lib.hid (HOX.out.trans ((M.out.oth sb).trans ho2)); have HB2 := Lib.hid hb2; have HBest2 := Lib.hid hbest2; clear ho2 hb2 hbest2))
                refine onward_normal (hK _ _ ⟨(by first | exact HNOW.out | exact ⟨M.out.arg HX5.out, M.out.blk 0 rfl⟩), ?_⟩)
                clear hK K
                try simp only [Act.put, List.getElem_toArray, List.getElem_cons_succ, List.getElem_cons_zero, List.setIfInBounds_toArray, List.set_cons_succ, List.set_cons_zero]
                refine any1H 15 (by kernel_rfl) rfl (fun K hK => ?_)
                go_wp2_with (first | ((with_reducible refine gate_dst (N := 70) rfl ?_); go_must (refine M.out.ev_ldw 0 _ _ rfl rfl rfl Try.underlying39 rfl (by first | exact sz39 | (rw [S1.out]; exact sz39) | (rw [S2.out]; exact sz39) | (rw [S3.out]; exact sz39)) rfl ?_)) | ((with_reducible refine gate_dst (N := 72) rfl ?_); go_must (refine M.out.ev_ldm 0 _ _ rfl rfl rfl _ _ (by first | exact Fld.cellsK LF.out | exact Fld.cellsS LF.out | assumption) Try.underlying39 rfl (by first | (rw [List.length_map, LF.out.kl]; exact sz39) | (rw [List.length_map, LF.out.sl]; exact sz39) | exact sz39) rfl ?_)) | ((with_reducible refine gate_dst (N := 77) rfl ?_); go_must (refine M.out.ev_ldm 0 _ _ rfl rfl rfl _ _ (by first | exact Fld.cellsK LF.out | exact Fld.cellsS LF.out | assumption) Try.underlying65 rfl (by first | (rw [List.length_map, LF.out.kl]; exact sz65) | (rw [List.length_map, LF.out.sl]; exact sz65) | exact sz65) rfl ?_)) | ((with_reducible refine gate_dst (N := 82) rfl ?_); go_must (refine M.out.ev_ld 0 _ _ rfl rfl rfl Try.underlying2 rfl rfl (by first | assumption | rfl) ?_)) | (go_at_call 84; go_must (refine (WithoutOf_any _ _ _).mono ?_); rintro e w_ ⟨rfl, N_⟩; have m := M.out.join N_; clear N_; simp only [List.cons_append, List.nil_append, List.append_nil] at m; have M := Lib.hid m; clear m) | (go_at_call 83; go_must (refine (cloneNet_any A cap ns (by have := H.out.nl; omega) H.out.room H.out.empt _ (H.out.sl _ (HOX.out.trans (M.out.oth sb)))).mono ?_); rintro e w_ ⟨A_, c_, rfl, hc_, N_⟩; have m := M.out.join N_; clear N_; simp only [List.cons_append, List.nil_append, List.append_nil] at m; have M := Lib.hid m; clear m) | ((with_reducible refine gate_dst (N := 78) rfl ?_); go_must (refine M.out.ev_bs1 elem_Net rfl _ rfl x.vals.toArray rfl rfl (by decide) ?_); intro g78 w78 m; simp only [List.cons_append, List.nil_append] at m; have M := Lib.hid m; clear m) | ((with_reducible refine gate_dst (N := 79) rfl ?_); go_must (first | (refine M.out.ev_append1 1 2 elem_Net rfl _ _ rfl rfl rfl rfl rfl rfl (Net.one x) (by have := H.out.nl; omega) (by decide) ?_; intro v79 w79 m; simp only [List.set_cons_succ, List.set_cons_zero] at m; obtain ⟨B79, c79, rfl, hc79, _⟩ := m.row_slice 1 rfl; have HIN := Lib.hid (H.out.next hg HZ.out HM.out (s' := s') (bv' := bv') (v := v68) (HOX.out.trans (m.oth sb)) (m.arg HX68.out) (HBest.out.oth (HO68b.out.trans (m.oth sb))) (by omega) (m.row 1 rfl) HLT.out hc79 (m.row_none 1 rfl))) | (refine M.out.ev_append1 2 1 elem_Net rfl _ _ rfl rfl rfl rfl rfl rfl (Net.one x) (by have := H.out.nl; omega) (by decide) ?_; intro v79 w79 m; simp only [List.set_cons_succ, List.set_cons_zero] at m; obtain ⟨B79, c79, rfl, hc79, _⟩ := m.row_slice 2 rfl; have HIN := Lib.hid (H.out.next hg HZ.out HM.out (s' := s') (bv' := bv') (v := v68) (HOX.out.trans (m.oth sb)) (m.arg HX68.out) (HBest.out.oth (HO68b.out.trans (m.oth sb))) (by omega) (m.row 2 rfl) HLT.out hc79 (m.row_none 2 rfl)))); rw [← HA.out] at HIN; have M := Lib.hid m; clear m) | (go_at_call 48; go_must (refine (IH.out _ _ _ _ _ _ _ _ _ HIN.out).mono ?_); rintro e w_ ⟨bv2, rfl, ho2, hb2, hbest2⟩; have HNOW := Lib.hid (show (Blk w_ g5 39 left.cells ∧ Blk w_ g10 99 (covVals p x).toArray) from ⟨ho2.blk (M.out.arg HX5.out) HG5.out, ho2.blk (M.out.blk 0 rfl) HG10.out⟩); have HOW := Lib.hid (HOX.out.trans ((M.out.oth sb).trans ho2)); have HB2 := Lib.hid hb2; have HBest2 := Lib.hid hbest2; clear ho2 hb2 hbest2))
                refine onward_normal (hK _ _ ⟨(by first | exact HNOW.out | exact ⟨M.out.arg HX5.out, M.out.blk 0 rfl⟩), ?_⟩)
                clear hK K
                try simp only [Act.put, List.getElem_toArray, List.getElem_cons_succ, List.getElem_cons_zero, List.setIfInBounds_toArray, List.set_cons_succ, List.set_cons_zero]
                apply takeH (i := 16) 85 rfl (by kernel_rfl) (by kernel_rfl) (by kernel_rfl) (fun _ _ _ h => h) rfl (by first | exact HNOW.out | exact ⟨M.out.arg HX5.out, M.out.blk 0 rfl⟩)
                case' hy =>
                  refine Or.inl ⟨by first | rfl | (go_simp; done), ?_⟩
                  intro w hS
                  clear hS
                  go_simp
                  try with_reducible rfl
                try simp only [Act.put, List.getElem_toArray, List.getElem_cons_succ, List.getElem_cons_zero, List.setIfInBounds_toArray, List.set_cons_succ, List.set_cons_zero]
                refine wpAnyH_done (by kernel_rfl) ?_ _
              rotate_right 1
              case' _ =>
                go_wp2_with (first | ((with_reducible refine gate_dst (N := 70) rfl ?_); go_must (refine M.out.ev_ldw 0 _ _ rfl rfl rfl Try.underlying39 rfl (by first | exact sz39 | (rw [S1.out]; exact sz39) | (rw [S2.out]; exact sz39) | (rw [S3.out]; exact sz39)) rfl ?_)) | ((with_reducible refine gate_dst (N := 72) rfl ?_); go_must (refine M.out.ev_ldm 0 _ _ rfl rfl rfl _ _ (by first | exact Fld.cellsK LF.out | exact Fld.cellsS LF.out | assumption) Try.underlying39 rfl (by first | (rw [List.length_map, LF.out.kl]; exact sz39) | (rw [List.length_map, LF.out.sl]; exact sz39) | exact sz39) rfl ?_)) | ((with_reducible refine gate_dst (N := 77) rfl ?_); go_must (refine M.out.ev_ldm 0 _ _ rfl rfl rfl _ _ (by first | exact Fld.cellsK LF.out | exact Fld.cellsS LF.out | assumption) Try.underlying65 rfl (by first | (rw [List.length_map, LF.out.kl]; exact sz65) | (rw [List.length_map, LF.out.sl]; exact sz65) | exact sz65) rfl ?_)) | ((with_reducible refine gate_dst (N := 82) rfl ?_); go_must (refine M.out.ev_ld 0 _ _ rfl rfl rfl Try.underlying2 rfl rfl (by first | assumption | rfl) ?_)) | (go_at_call 84; go_must (refine (WithoutOf_any _ _ _).mono ?_); rintro e w_ ⟨rfl, N_⟩; have m := M.out.join N_; clear N_; simp only [List.cons_append, List.nil_append, List.append_nil] at m; have M := Lib.hid m; clear m) | (go_at_call 83; go_must (refine (cloneNet_any A cap ns (by have := H.out.nl; omega) H.out.room H.out.empt _ (H.out.sl _ (HOX.out.trans (M.out.oth sb)))).mono ?_); rintro e w_ ⟨A_, c_, rfl, hc_, N_⟩; have m := M.out.join N_; clear N_; simp only [List.cons_append, List.nil_append, List.append_nil] at m; have M := Lib.hid m; clear m) | ((with_reducible refine gate_dst (N := 78) rfl ?_); go_must (refine M.out.ev_bs1 elem_Net rfl _ rfl x.vals.toArray rfl rfl (by decide) ?_); intro g78 w78 m; simp only [List.cons_append, List.nil_append] at m; have M := Lib.hid m; clear m) | ((with_reducible refine gate_dst (N := 79) rfl ?_); go_must (first | (refine M.out.ev_append1 1 2 elem_Net rfl _ _ rfl rfl rfl rfl rfl rfl (Net.one x) (by have := H.out.nl; omega) (by decide) ?_; intro v79 w79 m; simp only [List.set_cons_succ, List.set_cons_zero] at m; obtain ⟨B79, c79, rfl, hc79, _⟩ := m.row_slice 1 rfl; have HIN := Lib.hid (H.out.next hg HZ.out HM.out (s' := s') (bv' := bv') (v := v68) (HOX.out.trans (m.oth sb)) (m.arg HX68.out) (HBest.out.oth (HO68b.out.trans (m.oth sb))) (by omega) (m.row 1 rfl) HLT.out hc79 (m.row_none 1 rfl))) | (refine M.out.ev_append1 2 1 elem_Net rfl _ _ rfl rfl rfl rfl rfl rfl (Net.one x) (by have := H.out.nl; omega) (by decide) ?_; intro v79 w79 m; simp only [List.set_cons_succ, List.set_cons_zero] at m; obtain ⟨B79, c79, rfl, hc79, _⟩ := m.row_slice 2 rfl; have HIN := Lib.hid (H.out.next hg HZ.out HM.out (s' := s') (bv' := bv') (v := v68) (HOX.out.trans (m.oth sb)) (m.arg HX68.out) (HBest.out.oth (HO68b.out.trans (m.oth sb))) (by omega) (m.row 2 rfl) HLT.out hc79 (m.row_none 2 rfl)))); rw [← HA.out] at HIN; have M := Lib.hid m; clear m) | (go_at_call 48; go_must (refine (IH.out _ _ _ _ _ _ _ _ _ HIN.out).mono ?_); rintro e w_ ⟨bv2, rfl, ho2, hb2, hbest2⟩; have HNOW := Lib.hid (show (Blk w_ g5 39 left.cells ∧ Blk w_ g10 99 (covVals p x).toArray) from ⟨ho2.blk (M.out.arg HX5.out) HG5.out, ho2.blk (M.out.blk 0 rfl) HG10.out⟩); have HOW := Lib.hid (HOX.out.trans ((M.out.oth sb).trans ho2)); have HB2 := Lib.hid hb2; have HBest2 := Lib.hid hbest2; clear ho2 hb2 hbest2))
                refine onward_normal (hK _ _ ⟨(by first | exact HNOW.out | exact ⟨M.out.arg HX5.out, M.out.blk 0 rfl⟩), ?_⟩)
                clear hK K
                try simp only [Act.put, List.getElem_toArray, List.getElem_cons_succ, List.getElem_cons_zero, List.setIfInBounds_toArray, List.set_cons_succ, List.set_cons_zero]
                refine any2H 6 9 (by kernel_rfl) rfl rfl (fun K hK => ?_) (fun K hK => ?_)
                rotate_right 1
                case' _ =>
                  go_wp2_with (first | ((with_reducible refine gate_dst (N := 70) rfl ?_); go_must (refine M.out.ev_ldw 0 _ _ rfl rfl rfl Try.underlying39 rfl (by first | exact sz39 | (rw [S1.out]; exact sz39) | (rw [S2.out]; exact sz39) | (rw [S3.out]; exact sz39)) rfl ?_)) | ((with_reducible refine gate_dst (N := 72) rfl ?_); go_must (refine M.out.ev_ldm 0 _ _ rfl rfl rfl _ _ (by first | exact Fld.cellsK LF.out | exact Fld.cellsS LF.out | assumption) Try.underlying39 rfl (by first | (rw [List.length_map, LF.out.kl]; exact sz39) | (rw [List.length_map, LF.out.sl]; exact sz39) | exact sz39) rfl ?_)) | ((with_reducible refine gate_dst (N := 77) rfl ?_); go_must (refine M.out.ev_ldm 0 _ _ rfl rfl rfl _ _ (by first | exact Fld.cellsK LF.out | exact Fld.cellsS LF.out | assumption) Try.underlying65 rfl (by first | (rw [List.length_map, LF.out.kl]; exact sz65) | (rw [List.length_map, LF.out.sl]; exact sz65) | exact sz65) rfl ?_)) | ((with_reducible refine gate_dst (N := 82) rfl ?_); go_must (refine M.out.ev_ld 0 _ _ rfl rfl rfl Try.underlying2 rfl rfl (by first | assumption | rfl) ?_)) | (go_at_call 84; go_must (refine (WithoutOf_any _ _ _).mono ?_); rintro e w_ ⟨rfl, N_⟩; have m := M.out.join N_; clear N_; simp only [List.cons_append, List.nil_append, List.append_nil] at m; have M := Lib.hid m; clear m) | (go_at_call 83; go_must (refine (cloneNet_any A cap ns (by have := H.out.nl; omega) H.out.room H.out.empt _ (H.out.sl _ (HOX.out.trans (M.out.oth sb)))).mono ?_); rintro e w_ ⟨A_, c_, rfl, hc_, N_⟩; have m := M.out.join N_; clear N_; simp only [List.cons_append, List.nil_append, List.append_nil] at m; have M := Lib.hid m; clear m) | ((with_reducible refine gate_dst (N := 78) rfl ?_); go_must (refine M.out.ev_bs1 elem_Net rfl _ rfl x.vals.toArray rfl rfl (by decide) ?_); intro g78 w78 m; simp only [List.cons_append, List.nil_append] at m; have M := Lib.hid m; clear m) | ((with_reducible refine gate_dst (N := 79) rfl ?_); go_must (first | (refine M.out.ev_append1 1 2 elem_Net rfl _ _ rfl rfl rfl rfl rfl rfl (Net.one x) (by have := H.out.nl; omega) (by decide) ?_; intro v79 w79 m; simp only [List.set_cons_succ, List.set_cons_zero] at m; obtain ⟨B79, c79, rfl, hc79, _⟩ := m.row_slice 1 rfl; have HIN := Lib.hid (H.out.next hg HZ.out HM.out (s' := s') (bv' := bv') (v := v68) (HOX.out.trans (m.oth sb)) (m.arg HX68.out) (HBest.out.oth (HO68b.out.trans (m.oth sb))) (by omega) (m.row 1 rfl) HLT.out hc79 (m.row_none 1 rfl))) | (refine M.out.ev_append1 2 1 elem_Net rfl _ _ rfl rfl rfl rfl rfl rfl (Net.one x) (by have := H.out.nl; omega) (by decide) ?_; intro v79 w79 m; simp only [List.set_cons_succ, List.set_cons_zero] at m; obtain ⟨B79, c79, rfl, hc79, _⟩ := m.row_slice 2 rfl; have HIN := Lib.hid (H.out.next hg HZ.out HM.out (s' := s') (bv' := bv') (v := v68) (HOX.out.trans (m.oth sb)) (m.arg HX68.out) (HBest.out.oth (HO68b.out.trans (m.oth sb))) (by omega) (m.row 2 rfl) HLT.out hc79 (m.row_none 2 rfl)))); rw [← HA.out] at HIN; have M := Lib.hid m; clear m) | (go_at_call 48; go_must (refine (IH.out _ _ _ _ _ _ _ _ _ HIN.out).mono ?_); rintro e w_ ⟨bv2, rfl, ho2, hb2, hbest2⟩; have HNOW := Lib.hid (show (Blk w_ g5 39 left.cells ∧ Blk w_ g10 99 (covVals p x).toArray) from ⟨ho2.blk (M.out.arg HX5.out) HG5.out, ho2.blk (M.out.blk 0 rfl) HG10.out⟩); have HOW := Lib.hid (HOX.out.trans ((M.out.oth sb).trans ho2)); have HB2 := Lib.hid hb2; have HBest2 := Lib.hid hbest2; clear ho2 hb2 hbest2))
                  refine onward_normal (hK _ _ ⟨(by first | exact HNOW.out | exact ⟨M.out.arg HX5.out, M.out.blk 0 rfl⟩), ?_⟩)
                  clear hK K
                  try simp only [Act.put, List.getElem_toArray, List.getElem_cons_succ, List.getElem_cons_zero, List.setIfInBounds_toArray, List.set_cons_succ, List.set_cons_zero]
                  refine any1H 6 (by kernel_rfl) rfl (fun K hK => ?_)
                  go_wp2_with (first | ((with_reducible refine gate_dst (N := 70) rfl ?_); go_must (refine M.out.ev_ldw 0 _ _ rfl rfl rfl Try.underlying39 rfl (by first | exact sz39 | (rw [S1.out]; exact sz39) | (rw [S2.out]; exact sz39) | (rw [S3.out]; exact sz39)) rfl ?_)) | ((with_reducible refine gate_dst (N := 72) rfl ?_); go_must (refine M.out.ev_ldm 0 _ _ rfl rfl rfl _ _ (by first | exact Fld.cellsK LF.out | exact Fld.cellsS LF.out | assumption) Try.underlying39 rfl (by first | (rw [List.length_map, LF.out.kl]; exact sz39) | (rw [List.length_map, LF.out.sl]; exact sz39) | exact sz39) rfl ?_)) | ((with_reducible refine gate_dst (N := 77) rfl ?_); go_must (refine M.out.ev_ldm 0 _ _ rfl rfl rfl _ _ (by first | exact Fld.cellsK LF.out | exact Fld.cellsS LF.out | assumption) Try.underlying65 rfl (by first | (rw [List.length_map, LF.out.kl]; exact sz65) | (rw [List.length_map, LF.out.sl]; exact sz65) | exact sz65) rfl ?_)) | ((with_reducible refine gate_dst (N := 82) rfl ?_); go_must (refine M.out.ev_ld 0 _ _ rfl rfl rfl Try.underlying2 rfl rfl (by first | assumption | rfl) ?_)) | (go_at_call 84; go_must (refine (WithoutOf_any _ _ _).mono ?_); rintro e w_ ⟨rfl, N_⟩; have m := M.out.join N_; clear N_; simp only [List.cons_append, List.nil_append, List.append_nil] at m; have M := Lib.hid m; clear m) | (go_at_call 83; go_must (refine (cloneNet_any A cap ns (by have := H.out.nl; omega) H.out.room H.out.empt _ (H.out.sl _ (HOX.out.trans (M.out.oth sb)))).mono ?_); rintro e w_ ⟨A_, c_, rfl, hc_, N_⟩; have m := M.out.join N_; clear N_; simp only [List.cons_append, List.nil_append, List.append_nil] at m; have M := Lib.hid m; clear m) | ((with_reducible refine gate_dst (N := 78) rfl ?_); go_must (refine M.out.ev_bs1 elem_Net rfl _ rfl x.vals.toArray rfl rfl (by decide) ?_); intro g78 w78 m; simp only [List.cons_append, List.nil_append] at m; have M := Lib.hid m; clear m) | ((with_reducible refine gate_dst (N := 79) rfl ?_); go_must (first | (refine M.out.ev_append1 1 2 elem_Net rfl _ _ rfl rfl rfl rfl rfl rfl (Net.one x) (by have := H.out.nl; omega) (by decide) ?_; intro v79 w79 m; simp only [List.set_cons_succ, List.set_cons_zero] at m; obtain ⟨B79, c79, rfl, hc79, _⟩ := m.row_slice 1 rfl; have HIN := Lib.hid (H.out.next hg HZ.out HM.out (s' := s') (bv' := bv') (v := v68) (HOX.out.trans (m.oth sb)) (m.arg HX68.out) (HBest.out.oth (HO68b.out.trans (m.oth sb))) (by omega) (m.row 1 rfl) HLT.out hc79 (m.row_none 1 rfl))) | (refine M.out.ev_append1 2 1 elem_Net rfl _ _ rfl rfl rfl rfl rfl rfl (Net.one x) (by have := H.out.nl; omega) (by decide) ?_; intro v79 w79 m; simp only [List.set_cons_succ, List.set_cons_zero] at m; obtain ⟨B79, c79, rfl, hc79, _⟩ := m.row_slice 2 rfl; have HIN := Lib.hid (H.out.next hg HZ.out HM.out (s' := s') (bv' := bv') (v := v68) (HOX.out.trans (m.oth sb)) (m.arg HX68.out) (HBest.out.oth (HO68b.out.trans (m.oth sb))) (by omega) (m.row 2 rfl) HLT.out hc79 (m.row_none 2 rfl)))); rw [← HA.out] at HIN; have M := Lib.hid m; clear m) | (go_at_call 48; go_must (refine (IH.out _ _ _ _ _ _ _ _ _ HIN.out).mono ?_); rintro e w_ ⟨bv2, rfl, ho2, hb2, hbest2⟩; have HNOW := Lib.hid (show (Blk w_ g5 39 left.cells ∧ Blk w_ g10 99 (covVals p x).toArray) from ⟨ho2.blk (M.out.arg HX5.out) HG5.out, ho2.blk (M.out.blk 0 rfl) HG10.out⟩); have HOW := Lib.hid (HOX.out.trans ((M.out.oth sb).trans ho2)); have HB2 := Lib.hid hb2; have HBest2 := Lib.hid hbest2; clear ho2 hb2 hbest2))
                  refine onward_normal (hK _ _ ⟨(by first | exact HNOW.out | exact ⟨M.out.arg HX5.out, M.out.blk 0 rfl⟩), ?_⟩)
                  clear hK K
                  try simp only [Act.put, List.getElem_toArray, List.getElem_cons_succ, List.getElem_cons_zero, List.setIfInBounds_toArray, List.set_cons_succ, List.set_cons_zero]
                  refine any1H 10 (by kernel_rfl) rfl (fun K hK => ?_)
                  go_wp2_with (first | ((with_reducible refine gate_dst (N := 70) rfl ?_); go_must (refine M.out.ev_ldw 0 _ _ rfl rfl rfl Try.underlying39 rfl (by first | exact sz39 | (rw [S1.out]; exact sz39) | (rw [S2.out]; exact sz39) | (rw [S3.out]; exact sz39)) rfl ?_)) | ((with_reducible refine gate_dst (N := 72) rfl ?_); go_must (refine M.out.ev_ldm 0 _ _ rfl rfl rfl _ _ (by first | exact Fld.cellsK LF.out | exact Fld.cellsS LF.out | assumption) Try.underlying39 rfl (by first | (rw [List.length_map, LF.out.kl]; exact sz39) | (rw [List.length_map, LF.out.sl]; exact sz39) | exact sz39) rfl ?_)) | ((with_reducible refine gate_dst (N := 77) rfl ?_); go_must (refine M.out.ev_ldm 0 _ _ rfl rfl rfl _ _ (by first | exact Fld.cellsK LF.out | exact Fld.cellsS LF.out | assumption) Try.underlying65 rfl (by first | (rw [List.length_map, LF.out.kl]; exact sz65) | (rw [List.length_map, LF.out.sl]; exact sz65) | exact sz65) rfl ?_)) | ((with_reducible refine gate_dst (N := 82) rfl ?_); go_must (refine M.out.ev_ld 0 _ _ rfl rfl rfl Try.underlying2 rfl rfl (by first | assumption | rfl) ?_)) | (go_at_call 84; go_must (refine (WithoutOf_any _ _ _).mono ?_); rintro e w_ ⟨rfl, N_⟩; have m := M.out.join N_; clear N_; simp only [List.cons_append, List.nil_append, List.append_nil] at m; have M := Lib.hid m; clear m) | (go_at_call 83; go_must (refine (cloneNet_any A cap ns (by have := H.out.nl; omega) H.out.room H.out.empt _ (H.out.sl _ (HOX.out.trans (M.out.oth sb)))).mono ?_); rintro e w_ ⟨A_, c_, rfl, hc_, N_⟩; have m := M.out.join N_; clear N_; simp only [List.cons_append, List.nil_append, List.append_nil] at m; have M := Lib.hid m; clear m) | ((with_reducible refine gate_dst (N := 78) rfl ?_); go_must (refine M.out.ev_bs1 elem_Net rfl _ rfl x.vals.toArray rfl rfl (by decide) ?_); intro g78 w78 m; simp only [List.cons_append, List.nil_append] at m; have M := Lib.hid m; clear m) | ((with_reducible refine gate_dst (N := 79) rfl ?_); go_must (first | (refine M.out.ev_append1 1 2 elem_Net rfl _ _ rfl rfl rfl rfl rfl rfl (Net.one x) (by have := H.out.nl; omega) (by decide) ?_; intro v79 w79 m; simp only [List.set_cons_succ, List.set_cons_zero] at m; obtain ⟨B79, c79, rfl, hc79, _⟩ := m.row_slice 1 rfl; have HIN := Lib.hid (H.out.next hg HZ.out HM.out (s' := s') (bv' := bv') (v := v68) (HOX.out.trans (m.oth sb)) (m.arg HX68.out) (HBest.out.oth (HO68b.out.trans (m.oth sb))) (by omega) (m.row 1 rfl) HLT.out hc79 (m.row_none 1 rfl))) | (refine M.out.ev_append1 2 1 elem_Net rfl _ _ rfl rfl rfl rfl rfl rfl (Net.one x) (by have := H.out.nl; omega) (by decide) ?_; intro v79 w79 m; simp only [List.set_cons_succ, List.set_cons_zero] at m; obtain ⟨B79, c79, rfl, hc79, _⟩ := m.row_slice 2 rfl; have HIN := Lib.hid (H.out.next hg HZ.out HM.out (s' := s') (bv' := bv') (v := v68) (HOX.out.trans (m.oth sb)) (m.arg HX68.out) (HBest.out.oth (HO68b.out.trans (m.oth sb))) (by omega) (m.row 2 rfl) HLT.out hc79 (m.row_none 2 rfl)))); rw [← HA.out] at HIN; have M := Lib.hid m; clear m) | (go_at_call 48; go_must (refine (IH.out _ _ _ _ _ _ _ _ _ HIN.out).mono ?_); rintro e w_ ⟨bv2, rfl, ho2, hb2, hbest2⟩; have HNOW := Lib.hid (show (Blk w_ g5 39 left.cells ∧ Blk w_ g10 99 (covVals p x).toArray) from ⟨ho2.blk (M.out.arg HX5.out) HG5.out, ho2.blk (M.out.blk 0 rfl) HG10.out⟩); have HOW := Lib.hid (HOX.out.trans ((M.out.oth sb).trans ho2)); have HB2 := Lib.hid hb2; have HBest2 := Lib.hid hbest2; clear ho2 hb2 hbest2))
                  refine onward_normal (hK _ _ ⟨(by first | exact HNOW.out | exact ⟨M.out.arg HX5.out, M.out.blk 0 rfl⟩), ?_⟩)
                  clear hK K
                  try simp only [Act.put, List.getElem_toArray, List.getElem_cons_succ, List.getElem_cons_zero, List.setIfInBounds_toArray, List.set_cons_succ, List.set_cons_zero]
                  refine any1H 15 (by kernel_rfl) rfl (fun K hK => ?_)
                  go_wp2_with (first | ((with_reducible refine gate_dst (N := 70) rfl ?_); go_must (refine M.out.ev_ldw 0 _ _ rfl rfl rfl Try.underlying39 rfl (by first | exact sz39 | (rw [S1.out]; exact sz39) | (rw [S2.out]; exact sz39) | (rw [S3.out]; exact sz39)) rfl ?_)) | ((with_reducible refine gate_dst (N := 72) rfl ?_); go_must (refine M.out.ev_ldm 0 _ _ rfl rfl rfl _ _ (by first | exact Fld.cellsK LF.out | exact Fld.cellsS LF.out | assumption) Try.underlying39 rfl (by first | (rw [List.length_map, LF.out.kl]; exact sz39) | (rw [List.length_map, LF.out.sl]; exact sz39) | exact sz39) rfl ?_)) | ((with_reducible refine gate_dst (N := 77) rfl ?_); go_must (refine M.out.ev_ldm 0 _ _ rfl rfl rfl _ _ (by first | exact Fld.cellsK LF.out | exact Fld.cellsS LF.out | assumption) Try.underlying65 rfl (by first | (rw [List.length_map, LF.out.kl]; exact sz65) | (rw [List.length_map, LF.out.sl]; exact sz65) | exact sz65) rfl ?_)) | ((with_reducible refine gate_dst (N := 82) rfl ?_); go_must (refine M.out.ev_ld 0 _ _ rfl rfl rfl Try.underlying2 rfl rfl (by first | assumption | rfl) ?_)) | (go_at_call 84; go_must (refine (WithoutOf_any _ _ _).mono ?_); rintro e w_ ⟨rfl, N_⟩; have m := M.out.join N_; clear N_; simp only [List.cons_append, List.nil_append, List.append_nil] at m; have M := Lib.hid m; clear m) | (go_at_call 83; go_must (refine (cloneNet_any A cap ns (by have := H.out.nl; omega) H.out.room H.out.empt _ (H.out.sl _ (HOX.out.trans (M.out.oth sb)))).mono ?_); rintro e w_ ⟨A_, c_, rfl, hc_, N_⟩; have m := M.out.join N_; clear N_; simp only [List.cons_append, List.nil_append, List.append_nil] at m; have M := Lib.hid m; clear m) | ((with_reducible refine gate_dst (N := 78) rfl ?_); go_must (refine M.out.ev_bs1 elem_Net rfl _ rfl x.vals.toArray rfl rfl (by decide) ?_); intro g78 w78 m; simp only [List.cons_append, List.nil_append] at m; have M := Lib.hid m; clear m) | ((with_reducible refine gate_dst (N := 79) rfl ?_); go_must (first | (refine M.out.ev_append1 1 2 elem_Net rfl _ _ rfl rfl rfl rfl rfl rfl (Net.one x) (by have := H.out.nl; omega) (by decide) ?_; intro v79 w79 m; simp only [List.set_cons_succ, List.set_cons_zero] at m; obtain ⟨B79, c79, rfl, hc79, _⟩ := m.row_slice 1 rfl; have HIN := Lib.hid (H.out.next hg HZ.out HM.out (s' := s') (bv' := bv') (v := v68) (HOX.out.trans (m.oth sb)) (m.arg HX68.out) (HBest.out.oth (HO68b.out.trans (m.oth sb))) (by omega) (m.row 1 rfl) HLT.out hc79 (m.row_none 1 rfl))) | (refine M.out.ev_append1 2 1 elem_Net rfl _ _ rfl rfl rfl rfl rfl rfl (Net.one x) (by have := H.out.nl; omega) (by decide) ?_; intro v79 w79 m; simp only [List.set_cons_succ, List.set_cons_zero] at m; obtain ⟨B79, c79, rfl, hc79, _⟩ := m.row_slice 2 rfl; have HIN := Lib.hid (H.out.next hg HZ.out HM.out (s' := s') (bv' := bv') (v := v68) (HOX.out.trans (m.oth sb)) (m.arg HX68.out) (HBest.out.oth (HO68b.out.trans (m.oth sb))) (by omega) (m.row 2 rfl) HLT.out hc79 (m.row_none 2 rfl)))); rw [← HA.out] at HIN; have M := Lib.hid m; clear m) | (go_at_call 48; go_must (refine (IH.out _ _ _ _ _ _ _ _ _ HIN.out).mono ?_); rintro e w_ ⟨bv2, rfl, ho2, hb2, hbest2⟩; have HNOW := Lib.hid (show (Blk w_ g5 39 left.cells ∧ Blk w_ g10 99 (covVals p x).toArray) from ⟨ho2.blk (M.out.arg HX5.out) HG5.out, ho2.blk (M.out.blk 0 rfl) HG10.out⟩); have HOW := Lib.hid (HOX.out.trans ((M.out.oth sb).trans ho2)); have HB2 := Lib.hid hb2; have HBest2 := Lib.hid hbest2; clear ho2 hb2 hbest2))
                  refine onward_normal (hK _ _ ⟨(by first | exact HNOW.out | exact ⟨M.out.arg HX5.out, M.out.blk 0 rfl⟩), ?_⟩)
                  clear hK K
                  try simp only [Act.put, List.getElem_toArray, List.getElem_cons_succ, List.getElem_cons_zero, List.setIfInBounds_toArray, List.set_cons_succ, List.set_cons_zero]
                  apply takeH (i := 16) 85 rfl (by kernel_rfl) (by kernel_rfl) (by kernel_rfl) (fun _ _ _ h => h) rfl (by first | exact HNOW.out | exact ⟨M.out.arg HX5.out, M.out.blk 0 rfl⟩)
                  case' hy =>
                    refine Or.inl ⟨by first | rfl | (go_simp; done), ?_⟩
                    intro w hS
                    clear hS
                    go_simp
                    try with_reducible rfl
                  try simp only [Act.put, List.getElem_toArray, List.getElem_cons_succ, List.getElem_cons_zero, List.setIfInBounds_toArray, List.set_cons_succ, List.set_cons_zero]
                  refine wpAnyH_done (by kernel_rfl) ?_ _
                rotate_right 1
                case' _ =>
                  go_wp2_with (first | ((with_reducible refine gate_dst (N := 70) rfl ?_); go_must (refine M.out.ev_ldw 0 _ _ rfl rfl rfl Try.underlying39 rfl (by first | exact sz39 | (rw [S1.out]; exact sz39) | (rw [S2.out]; exact sz39) | (rw [S3.out]; exact sz39)) rfl ?_)) | ((with_reducible refine gate_dst (N := 72) rfl ?_); go_must (refine M.out.ev_ldm 0 _ _ rfl rfl rfl _ _ (by first | exact Fld.cellsK LF.out | exact Fld.cellsS LF.out | assumption) Try.underlying39 rfl (by first | (rw [List.length_map, LF.out.kl]; exact sz39) | (rw [List.length_map, LF.out.sl]; exact sz39) | exact sz39) rfl ?_)) | ((with_reducible refine gate_dst (N := 77) rfl ?_); go_must (refine M.out.ev_ldm 0 _ _ rfl rfl rfl _ _ (by first | exact Fld.cellsK LF.out | exact Fld.cellsS LF.out | assumption) Try.underlying65 rfl (by first | (rw [List.length_map, LF.out.kl]; exact sz65) | (rw [List.length_map, LF.out.sl]; exact sz65) | exact sz65) rfl ?_)) | ((with_reducible refine gate_dst (N := 82) rfl ?_); go_must (refine M.out.ev_ld 0 _ _ rfl rfl rfl Try.underlying2 rfl rfl (by first | assumption | rfl) ?_)) | (go_at_call 84; go_must (refine (WithoutOf_any _ _ _).mono ?_); rintro e w_ ⟨rfl, N_⟩; have m := M.out.join N_; clear N_; simp only [List.cons_append, List.nil_append, List.append_nil] at m; have M := Lib.hid m; clear m) | (go_at_call 83; go_must (refine (cloneNet_any A cap ns (by have := H.out.nl; omega) H.out.room H.out.empt _ (H.out.sl _ (HOX.out.trans (M.out.oth sb)))).mono ?_); rintro e w_ ⟨A_, c_, rfl, hc_, N_⟩; have m := M.out.join N_; clear N_; simp only [List.cons_append, List.nil_append, List.append_nil] at m; have M := Lib.hid m; clear m) | ((with_reducible refine gate_dst (N := 78) rfl ?_); go_must (refine M.out.ev_bs1 elem_Net rfl _ rfl x.vals.toArray rfl rfl (by decide) ?_); intro g78 w78 m; simp only [List.cons_append, List.nil_append] at m; have M := Lib.hid m; clear m) | ((with_reducible refine gate_dst (N := 79) rfl ?_); go_must (first | (refine M.out.ev_append1 1 2 elem_Net rfl _ _ rfl rfl rfl rfl rfl rfl (Net.one x) (by have := H.out.nl; omega) (by decide) ?_; intro v79 w79 m; simp only [List.set_cons_succ, List.set_cons_zero] at m; obtain ⟨B79, c79, rfl, hc79, _⟩ := m.row_slice 1 rfl; have HIN := Lib.hid (H.out.next hg HZ.out HM.out (s' := s') (bv' := bv') (v := v68) (HOX.out.trans (m.oth sb)) (m.arg HX68.out) (HBest.out.oth (HO68b.out.trans (m.oth sb))) (by omega) (m.row 1 rfl) HLT.out hc79 (m.row_none 1 rfl))) | (refine M.out.ev_append1 2 1 elem_Net rfl _ _ rfl rfl rfl rfl rfl rfl (Net.one x) (by have := H.out.nl; omega) (by decide) ?_; intro v79 w79 m; simp only [List.set_cons_succ, List.set_cons_zero] at m; obtain ⟨B79, c79, rfl, hc79, _⟩ := m.row_slice 2 rfl; have HIN := Lib.hid (H.out.next hg HZ.out HM.out (s' := s') (bv' := bv') (v := v68) (HOX.out.trans (m.oth sb)) (m.arg HX68.out) (HBest.out.oth (HO68b.out.trans (m.oth sb))) (by omega) (m.row 2 rfl) HLT.out hc79 (m.row_none 2 rfl)))); rw [← HA.out] at HIN; have M := Lib.hid m; clear m) | (go_at_call 48; go_must (refine (IH.out _ _ _ _ _ _ _ _ _ HIN.out).mono ?_); rintro e w_ ⟨bv2, rfl, ho2, hb2, hbest2⟩; have HNOW := Lib.hid (show (Blk w_ g5 39 left.cells ∧ Blk w_ g10 99 (covVals p x).toArray) from ⟨ho2.blk (M.out.arg HX5.out) HG5.out, ho2.blk (M.out.blk 0 rfl) HG10.out⟩); have HOW := Lib.hid (HOX.out.trans ((M.out.oth sb).trans ho2)); have HB2 := Lib.hid hb2; have HBest2 := Lib.hid hbest2; clear ho2 hb2 hbest2))
                  refine onward_normal (hK _ _ ⟨(by first | exact HNOW.out | exact ⟨M.out.arg HX5.out, M.out.blk 0 rfl⟩), ?_⟩)
                  clear hK K
                  try simp only [Act.put, List.getElem_toArray, List.getElem_cons_succ, List.getElem_cons_zero, List.setIfInBounds_toArray, List.set_cons_succ, List.set_cons_zero]
                  refine any1H 9 (by kernel_rfl) rfl (fun K hK => ?_)
                  go_wp2_with (first | ((with_reducible refine gate_dst (N := 70) rfl ?_); go_must (refine M.out.ev_ldw 0 _ _ rfl rfl rfl Try.underlying39 rfl (by first | exact sz39 | (rw [S1.out]; exact sz39) | (rw [S2.out]; exact sz39) | (rw [S3.out]; exact sz39)) rfl ?_)) | ((with_reducible refine gate_dst (N := 72) rfl ?_); go_must (refine M.out.ev_ldm 0 _ _ rfl rfl rfl _ _ (by first | exact Fld.cellsK LF.out | exact Fld.cellsS LF.out | assumption) Try.underlying39 rfl (by first | (rw [List.length_map, LF.out.kl]; exact sz39) | (rw [List.length_map, LF.out.sl]; exact sz39) | exact sz39) rfl ?_)) | ((with_reducible refine gate_dst (N := 77) rfl ?_); go_must (refine M.out.ev_ldm 0 _ _ rfl rfl rfl _ _ (by first | exact Fld.cellsK LF.out | exact Fld.cellsS LF.out | assumption) Try.underlying65 rfl (by first | (rw [List.length_map, LF.out.kl]; exact sz65) | (rw [List.length_map, LF.out.sl]; exact sz65) | exact sz65) rfl ?_)) | ((with_reducible refine gate_dst (N := 82) rfl ?_); go_must (refine M.out.ev_ld 0 _ _ rfl rfl rfl Try.underlying2 rfl rfl (by first | assumption | rfl) ?_)) | (go_at_call 84; go_must (refine (WithoutOf_any _ _ _).mono ?_); rintro e w_ ⟨rfl, N_⟩; have m := M.out.join N_; clear N_; simp only [List.cons_append, List.nil_append, List.append_nil] at m; have M := Lib.hid m; clear m) | (go_at_call 83; go_must (refine (cloneNet_any A cap ns (by have := H.out.nl; omega) H.out.room H.out.empt _ (H.out.sl _ (HOX.out.trans (M.out.oth sb)))).mono ?_); rintro e w_ ⟨A_, c_, rfl, hc_, N_⟩; have m := M.out.join N_; clear N_; simp only [List.cons_append, List.nil_append, List.append_nil] at m; have M := Lib.hid m; clear m) | ((with_reducible refine gate_dst (N := 78) rfl ?_); go_must (refine M.out.ev_bs1 elem_Net rfl _ rfl x.vals.toArray rfl rfl (by decide) ?_); intro g78 w78 m; simp only [List.cons_append, List.nil_append] at m; have M := Lib.hid m; clear m) | ((with_reducible refine gate_dst (N := 79) rfl ?_); go_must (first | (refine M.out.ev_append1 1 2 elem_Net rfl _ _ rfl rfl rfl rfl rfl rfl (Net.one x) (by have := H.out.nl; omega) (by decide) ?_; intro v79 w79 m; simp only [List.set_cons_succ, List.set_cons_zero] at m; obtain ⟨B79, c79, rfl, hc79, _⟩ := m.row_slice 1 rfl; have HIN := Lib.hid (H.out.next hg HZ.out HM.out (s' := s') (bv' := bv') (v := v68) (HOX.out.trans (m.oth sb)) (m.arg HX68.out) (HBest.out.oth (HO68b.out.trans (m.oth sb))) (by omega) (m.row 1 rfl) HLT.out hc79 (m.row_none 1 rfl))) | (refine M.out.ev_append1 2 1 elem_Net rfl _ _ rfl rfl rfl rfl rfl rfl (Net.one x) (by have := H.out.nl; omega) (by decide) ?_; intro v79 w79 m; simp only [List.set_cons_succ, List.set_cons_zero] at m; obtain ⟨B79, c79, rfl, hc79, _⟩ := m.row_slice 2 rfl; have HIN := Lib.hid (H.out.next hg HZ.out HM.out (s' := s') (bv' := bv') (v := v68) (HOX.out.trans (m.oth sb)) (m.arg HX68.out) (HBest.out.oth (HO68b.out.trans (m.oth sb))) (by omega) (m.row 2 rfl) HLT.out hc79 (m.row_none 2 rfl)))); rw [← HA.out] at HIN; have M := Lib.hid m; clear m) | (go_at_call 48; go_must (refine (IH.out _ _ _ _ _ _ _ _ _ HIN.out).mono ?_); rintro e w_ ⟨bv2, rfl, ho2, hb2, hbest2⟩; have HNOW := Lib.hid (show (Blk w_ g5 39 left.cells ∧ Blk w_ g10 99 (covVals p x).toArray) from ⟨ho2.blk (M.out.arg HX5.out) HG5.out, ho2.blk (M.out.blk 0 rfl) HG10.out⟩); have HOW := Lib.hid (HOX.out.trans ((M.out.oth sb).trans ho2)); have HB2 := Lib.hid hb2; have HBest2 := Lib.hid hbest2; clear ho2 hb2 hbest2))
                  refine onward_normal (hK _ _ ⟨(by first | exact HNOW.out | exact ⟨M.out.arg HX5.out, M.out.blk 0 rfl⟩), ?_⟩)
                  clear hK K
                  try simp only [Act.put, List.getElem_toArray, List.getElem_cons_succ, List.getElem_cons_zero, List.setIfInBounds_toArray, List.set_cons_succ, List.set_cons_zero]
                  refine any1H 10 (by kernel_rfl) rfl (fun K hK => ?_)
                  go_wp2_with (first | ((with_reducible refine gate_dst (N := 70) rfl ?_); go_must (refine M.out.ev_ldw 0 _ _ rfl rfl rfl Try.underlying39 rfl (by first | exact sz39 | (rw [S1.out]; exact sz39) | (rw [S2.out]; exact sz39) | (rw [S3.out]; exact sz39)) rfl ?_)) | ((with_reducible refine gate_dst (N := 72) rfl ?_); go_must (refine M.out.ev_ldm 0 _ _ rfl rfl rfl _ _ (by first | exact Fld.cellsK LF.out | exact Fld.cellsS LF.out | assumption) Try.underlying39 rfl (by first | (rw [List.length_map, LF.out.kl]; exact sz39) | (rw [List.length_map, LF.out.sl]; exact sz39) | exact sz39) rfl ?_)) | ((with_reducible refine gate_dst (N := 77) rfl ?_); go_must (refine M.out.ev_ldm 0 _ _ rfl rfl rfl _ _ (by first | exact Fld.cellsK LF.out | exact Fld.cellsS LF.out | assumption) Try.underlying65 rfl (by first | (rw [List.length_map, LF.out.kl]; exact sz65) | (rw [List.length_map, LF.out.sl]; exact sz65) | exact sz65) rfl ?_)) | ((with_reducible refine gate_dst (N := 82) rfl ?_); go_must (refine M.out.ev_ld 0 _ _ rfl rfl rfl Try.underlying2 rfl rfl (by first | assumption | rfl) ?_)) | (go_at_call 84; go_must (refine (WithoutOf_any _ _ _).mono ?_); rintro e w_ ⟨rfl, N_⟩; have m := M.out.join N_; clear N_; simp only [List.cons_append, List.nil_append, List.append_nil] at m; have M := Lib.hid m; clear m) | (go_at_call 83; go_must (refine (cloneNet_any A cap ns (by have := H.out.nl; omega) H.out.room H.out.empt _ (H.out.sl _ (HOX.out.trans (M.out.oth sb)))).mono ?_); rintro e w_ ⟨A_, c_, rfl, hc_, N_⟩; have m := M.out.join N_; clear N_; simp only [List.cons_append, List.nil_append, List.append_nil] at m; have M := Lib.hid m; clear m) | ((with_reducible refine gate_dst (N := 78) rfl ?_); go_must (refine M.out.ev_bs1 elem_Net rfl _ rfl x.vals.toArray rfl rfl (by decide) ?_); intro g78 w78 m; simp only [List.cons_append, List.nil_append] at m; have M := Lib.hid m; clear m) | ((with_reducible refine gate_dst (N := 79) rfl ?_); go_must (first | (refine M.out.ev_append1 1 2 elem_Net rfl _ _ rfl rfl rfl rfl rfl rfl (Net.one x) (by have := H.out.nl; omega) (by decide) ?_; intro v79 w79 m; simp only [List.set_cons_succ, List.set_cons_zero] at m; obtain ⟨B79, c79, rfl, hc79, _⟩ := m.row_slice 1 rfl; have HIN := Lib.hid (H.out.next hg HZ.out HM.out (s' := s') (bv' := bv') (v := v68) (HOX.out.trans (m.oth sb)) (m.arg HX68.out) (HBest.out.oth (HO68b.out.trans (m.oth sb))) (by omega) (m.row 1 rfl) HLT.out hc79 (m.row_none 1 rfl))) | (refine M.out.ev_append1 2 1 elem_Net rfl _ _ rfl rfl rfl rfl rfl rfl (Net.one x) (by have := H.out.nl; omega) (by decide) ?_; intro v79 w79 m; simp only [List.set_cons_succ, List.set_cons_zero] at m; obtain ⟨B79, c79, rfl, hc79, _⟩ := m.row_slice 2 rfl; have HIN := Lib.hid (H.out.next hg HZ.out HM.out (s' := s') (bv' := bv') (v := v68) (HOX.out.trans (m.oth sb)) (m.arg HX68.out) (HBest.out.oth (HO68b.out.trans (m.oth sb))) (by omega) (m.row 2 rfl) HLT.out hc79 (m.row_none 2 rfl)))); rw [← HA.out] at HIN; have M := Lib.hid m; clear m) | (go_at_call 48; go_must (refine (IH.out _ _ _ _ _ _ _ _ _ HIN.out).mono ?_); rintro e w_ ⟨bv2, rfl, ho2, hb2, hbest2⟩; have HNOW := Lib.hid (show (Blk w_ g5 39 left.cells ∧ Blk w_ g10 99 (covVals p x).toArray) from ⟨ho2.blk (M.out.arg HX5.out) HG5.out, ho2.blk (M.out.blk 0 rfl) HG10.out⟩); have HOW := Lib.hid (HOX.out.trans ((M.out.oth sb).trans ho2)); have HB2 := Lib.hid hb2; have HBest2 := Lib.hid hbest2; clear ho2 hb2 hbest2))
                  refine onward_normal (hK _ _ ⟨(by first | exact HNOW.out | exact ⟨M.out.arg HX5.out, M.out.blk 0 rfl⟩), ?_⟩)
                  clear hK K
                  try simp only [Act.put, List.getElem_toArray, List.getElem_cons_succ, List.getElem_cons_zero, List.setIfInBounds_toArray, List.set_cons_succ, List.set_cons_zero]
                  refine any1H 15 (by kernel_rfl) rfl (fun K hK => ?_)
                  go_wp2_with (first | ((with_reducible refine gate_dst (N := 70) rfl ?_); go_must (refine M.out.ev_ldw 0 _ _ rfl rfl rfl Try.underlying39 rfl (by first | exact sz39 | (rw [S1.out]; exact sz39) | (rw [S2.out]; exact sz39) | (rw [S3.out]; exact sz39)) rfl ?_)) | ((with_reducible refine gate_dst (N := 72) rfl ?_); go_must (refine M.out.ev_ldm 0 _ _ rfl rfl rfl _ _ (by first | exact Fld.cellsK LF.out | exact Fld.cellsS LF.out | assumption) Try.underlying39 rfl (by first | (rw [List.length_map, LF.out.kl]; exact sz39) | (rw [List.length_map, LF.out.sl]; exact sz39) | exact sz39) rfl ?_)) | ((with_reducible refine gate_dst (N := 77) rfl ?_); go_must (refine M.out.ev_ldm 0 _ _ rfl rfl rfl _ _ (by first | exact Fld.cellsK LF.out | exact Fld.cellsS LF.out | assumption) Try.underlying65 rfl (by first | (rw [List.length_map, LF.out.kl]; exact sz65) | (rw [List.length_map, LF.out.sl]; exact sz65) | exact sz65) rfl ?_)) | ((with_reducible refine gate_dst (N := 82) rfl ?_); go_must (refine M.out.ev_ld 0 _ _ rfl rfl rfl Try.underlying2 rfl rfl (by first | assumption | rfl) ?_)) | (go_at_call 84; go_must (refine (WithoutOf_any _ _ _).mono ?_); rintro e w_ ⟨rfl, N_⟩; have m := M.out.join N_; clear N_; simp only [List.cons_append, List.nil_append, List.append_nil] at m; have M := Lib.hid m; clear m) | (go_at_call 83; go_must (refine (cloneNet_any A cap ns (by have := H.out.nl; omega) H.out.room H.out.empt _ (H.out.sl _ (HOX.out.trans (M.out.oth sb)))).mono ?_); rintro e w_ ⟨A_, c_, rfl, hc_, N_⟩; have m := M.out.join N_; clear N_; simp only [List.cons_append, List.nil_append, List.append_nil] at m; have M := Lib.hid m; clear m) | ((with_reducible refine gate_dst (N := 78) rfl ?_); go_must (refine M.out.ev_bs1 elem_Net rfl _ rfl x.vals.toArray rfl rfl (by decide) ?_); intro g78 w78 m; simp only [List.cons_append, List.nil_append] at m; have M := Lib.hid m; clear m) | ((with_reducible refine gate_dst (N := 79) rfl ?_); go_must (first | (refine M.out.ev_append1 1 2 elem_Net rfl _ _ rfl rfl rfl rfl rfl rfl (Net.one x) (by have := H.out.nl; omega) (by decide) ?_; intro v79 w79 m; simp only [List.set_cons_succ, List.set_cons_zero] at m; obtain ⟨B79, c79, rfl, hc79, _⟩ := m.row_slice 1 rfl; have HIN := Lib.hid (H.out.next hg HZ.out HM.out (s' := s') (bv' := bv') (v := v68) (HOX.out.trans (m.oth sb)) (m.arg HX68.out) (HBest.out.oth (HO68b.out.trans (m.oth sb))) (by omega) (m.row 1 rfl) HLT.out hc79 (m.row_none 1 rfl))) | (refine M.out.ev_append1 2 1 elem_Net rfl _ _ rfl rfl rfl rfl rfl rfl (Net.one x) (by have := H.out.nl; omega) (by decide) ?_; intro v79 w79 m; simp only [List.set_cons_succ, List.set_cons_zero] at m; obtain ⟨B79, c79, rfl, hc79, _⟩ := m.row_slice 2 rfl; have HIN := Lib.hid (H.out.next hg HZ.out HM.out (s' := s') (bv' := bv') (v := v68) (HOX.out.trans (m.oth sb)) (m.arg HX68.out) (HBest.out.oth (HO68b.out.trans (m.oth sb))) (by omega) (m.row 2 rfl) HLT.out hc79 (m.row_none 2 rfl)))); rw [← HA.out] at HIN; have M := Lib.hid m; clear m) | (go_at_call 48; go_must (refine (IH.out _ _ _ _ _ _ _ _ _ HIN.out).mono ?_); rintro e w_ ⟨bv2, rfl, ho2, hb2, hbest2⟩; have HNOW := Lib.hid (show (Blk w_ g5 39 left.cells ∧ Blk w_ g10 99 (covVals p x).toArray) from ⟨ho2.blk (M.out.arg HX5.out) HG5.out, ho2.blk (M.out.blk 0 rfl) HG10.out⟩); have HOW := Lib.hid (HOX.out.trans ((M.out.oth sb).trans ho2)); have HB2 := Lib.hid hb2; have HBest2 := Lib.hid hbest2; clear ho2 hb2 hbest2))
                  refine onward_normal (hK _ _ ⟨(by first | exact HNOW.out | exact ⟨M.out.arg HX5.out, M.out.blk 0 rfl⟩), ?_⟩)
                  clear hK K
                  try simp only [Act.put, List.getElem_toArray, List.getElem_cons_succ, List.getElem_cons_zero, List.setIfInBounds_toArray, List.set_cons_succ, List.set_cons_zero]
                  apply takeH (i := 16) 85 rfl (by kernel_rfl) (by kernel_rfl) (by kernel_rfl) (fun _ _ _ h => h) rfl (by first | exact HNOW.out | exact ⟨M.out.arg HX5.out, M.out.blk 0 rfl⟩)
                  case' hy =>
                    refine Or.inl ⟨by first | rfl | (go_simp; done), ?_⟩
                    intro w hS
                    clear hS
                    go_simp
                    try with_reducible rfl
                  try simp only [Act.put, List.getElem_toArray, List.getElem_cons_succ, List.getElem_cons_zero, List.setIfInBounds_toArray, List.set_cons_succ, List.set_cons_zero]
                  refine wpAnyH_done (by kernel_rfl) ?_ _
              all_goals
                obtain ⟨q, hq⟩ : ∃ q, q = seek F p B m (left.without (netSet x)) (ns ++ [x]) (c + a) ⟨s'.tries + 1, s'.least, s'.best⟩ := ⟨_, rfl⟩
                have HSQ := HSK.out q hq.symm
                rw [hsk] at HSQ
                have HT4 := HT3.out
                rw [← hq] at HB2 HBest2 HT4
                try rw [← hq]
                have HSQ := Lib.hid HSQ
                clear hq
                cases hq1 : q.1
                · try rw [hq1]
                  go_wp2
                  go_ret
                  have e9 := HSQ.out
                  rw [if_neg (by rw [hq1]; decide)] at e9
                  rw [e9]
                  exact ⟨bv2, (by show Ending.returned (.bool false) = _; rw [hq1]), HOW.out, HB2.out, HBest2.out⟩
                · try rw [hq1]
                  go_wp2
                  have e9 := HSQ.out
                  rw [if_pos hq1] at e9
                  exact ⟨⟨i + 1, q.2, bv2, by omega, by go_num, HOW.out, HNOW.out.1, HB2.out, HBest2.out, HT4, e9.symm⟩, by simp [intOf]; omega⟩
        · obtain rfl : i = L.length := by omega
          rw [List.drop_length, skIn] at hsk
          have i1 : ¬ ((L.length : Int) < (L.length : Int)) := by omega
          go_wp2
          go_ret
          rw [← hsk]
          exact ⟨bv', rfl, HO.out, HB.out, HBest.out⟩
theorem look_any (F : Fld) (hv : F.valid = true) (p : Prices) (hg : p.good = true) (T : Cs) (sb bm B base : Nat) (hB : B ≤ 20000) (hbs : base ≤ sb) : ∀ (m : Nat) (left : Cs) (ns : List Net) (n : Nat) (c : Int) (s : Sk) (bv : Value) (A : Option Addr) (cap : Nat) (w : World),
    LkIn F p T sb bm B base m left ns n c s bv A cap w → Calls Try.prog 48 #[.pointer (some ⟨sb, 0, none⟩), .agg left.cells, .slice A n cap, .int .i64 c] w (RetLook w base sb bm B (seek F p B m left ns c s))
  | 0, _, _, _, _, _, _, _, _, _, h => absurd h.lt (Nat.not_lt_zero _)
  | m + 1, left, ns, n, c, s, bv, A, cap, w, h => look_step F hv p hg T sb bm B base hB hbs m (look_any F hv p hg T sb bm B base hB hbs m) left ns n c s bv A cap w h
end Go.Proofs.Ytjkclggdaafmaaa
