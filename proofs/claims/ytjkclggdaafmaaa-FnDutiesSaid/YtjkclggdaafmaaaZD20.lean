/- Texts of a proof, laid together: GreedyS. -/
import Derived.Test.YtjkclggdaafmaaaZD13
namespace Go.Proofs.Ytjkclggdaafmaaa
set_option linter.unusedSimpArgs false
set_option linter.unusedVariables false
open Go.RowKit
attribute [local go_sem] cell?_mk frozen?_mk
--ONES exact Cs.one _ | exact Net.one _ | exact Prices.one _
set_option maxRecDepth 100000 in
set_option maxHeartbeats 1000000 in
theorem l04Count_any (a b : Cs) (ha : a.ok) (hb : b.ok) (w : World) :
    Calls Try.prog 60 #[.agg a.cells, .agg b.cells] w fun e w' => e = .returned (.int .i64 (a.and b).all.length) ∧ Mem w w' [] := by
  have M := Lib.hid (Mem.start w)
  have O1 := Lib.hid (Cs.one (a.and b))
  go_enter Try.func60, Try.ntmps60
  go_wp2_with (first
    | ((with_reducible refine gate_dst (N := 2) rfl ?_); go_must (refine M.out.ev_new rfl (by first | (go_simp; done) | (go_simp; rfl)) ?_); intro g2 w2 m; simp only [List.cons_append, List.nil_append] at m; have M := Lib.hid m; clear m)
    | ((with_reducible refine gate_dst (N := 3) rfl ?_); go_must (refine M.out.ev_new rfl (by first | (go_simp; done) | (go_simp; rfl)) ?_); intro g3 w3 m; simp only [List.cons_append, List.nil_append] at m; have M := Lib.hid m; clear m)
    | ((with_reducible refine gate_dst (N := 6) rfl ?_); go_must (refine M.out.ev_ldw 0 _ _ rfl rfl rfl Try.underlying39 rfl (by first | exact sz39 | (rw [S1.out]; exact sz39) | (rw [S2.out]; exact sz39) | (rw [S3.out]; exact sz39)) rfl ?_))
    | ((with_reducible refine gate_dst (N := 7) rfl ?_); go_must (refine M.out.ev_ldw 1 _ _ rfl rfl rfl Try.underlying39 rfl (by first | exact sz39 | (rw [S1.out]; exact sz39) | (rw [S2.out]; exact sz39) | (rw [S3.out]; exact sz39)) rfl ?_))
    | ((with_reducible refine gate_dst (N := 5) rfl ?_); go_must (refine M.out.ev_new rfl (by first | (go_simp; done) | (go_simp; rfl)) ?_); intro g5 w5 m; simp only [List.cons_append, List.nil_append] at m; have M := Lib.hid m; clear m)
    | ((with_reducible refine gate_store (x := .tmp 5) rfl ?_); go_must (refine M.out.ev_stw 2 _ _ _ rfl rfl rfl rfl _ rfl (by first | rfl | (simp only [S1.out]; rfl) | (simp only [S1.out, S2.out]; rfl) | (simp only [S3.out]; rfl) | (simp only [S1.out, S2.out, S3.out]; rfl)) (by first | exact sz39 | (rw [S1.out]; exact sz39) | (rw [S2.out]; exact sz39) | (rw [S3.out]; exact sz39)) (by first | exact ints_one _ _ | exact Fld.one _ | exact O1.out | exact Cs.one _ | exact Net.one _ | exact Prices.one _ | rfl | (simp [Value.oneCell']; done)) rfl ?_); intro wn m; simp only [List.set_cons_succ, List.set_cons_zero, List.setIfInBounds_toArray] at m; have M := Lib.hid m; clear m)
    | (go_at_call 89; go_must (refine (l04Meet_any _ _ ha hb _).mono ?_); rintro e w_ ⟨rfl, N_⟩; have m := M.out.join N_; clear N_; simp only [List.cons_append, List.nil_append, List.append_nil] at m; have M := Lib.hid m; clear m)
    | (go_at_call 34; go_must (refine (l01List_any g5 _ (Cs.and_ok ha) _ (M.out.blk 2 rfl)).mono ?_); rintro e w_ ⟨A_, c_, rfl, hc_, N_⟩; have m := M.out.join N_; clear N_; simp only [List.cons_append, List.nil_append, List.append_nil] at m; have M := Lib.hid m; clear m)
    )
  go_ret
  exact ⟨rfl, M.out.take 0⟩
set_option maxRecDepth 100000 in
set_option maxHeartbeats 8000000 in
theorem spec_GreedyNets_any (F : Fld) (hF : F.ok) (p : Prices) (hp : p.ok) (c : Cs) (hc : c.ok) (w : World) :
    Calls Try.prog 21 #[.agg F.cells, .agg p.vals.toArray, .agg c.cells] w (RetNI w (gRes F p c) (costs p (gRes F p c)) (gCode F p c)) := by
  have M := Lib.hid (Mem.start w)
  have HF := Lib.hid hF
  have S1 := Lib.hid (Fld.size hF.toLen)
  have O1 := Lib.hid (Cs.one c.cut)
  clear hF
  by_cases hk : prCode F p [] c = 0
  · have h1 := (prCode_0 hk).2
    have HG := Lib.hid (prCode_0 hk).1
    have hin := (ntCode_0 h1).2.2.2
    have HIN := Lib.hid hin
    have HK := Lib.hid hk
    have HV := Lib.hid (netsOk_iff.1 (ntCode_0 h1).1).1
    cases hw : wood F c
    · have HW := Lib.hid hw
      have HR := Lib.hid (show gRes F p c = greedyFrom F p 12 c.cut [] by rw [gRes, if_pos hk, hw]; rfl)
      have HC := Lib.hid (show gCode F p c = 0 by rw [gCode, if_pos hk, hw]; rfl)
      have GS := Lib.hid (GOk.start (p := p) hc h1 hw)
      obtain ⟨R, hR⟩ : ∃ R, R = gRes F p c := ⟨_, rfl⟩
      rw [← HR.out, ← hR] at GS
      rw [← hR]
      clear hk h1 hw hin HR hR
      go_enter Try.func21, Try.ntmps21
      go_wp2_with (first
        | ((with_reducible refine gate_dst (N := 3) rfl ?_); go_must (refine M.out.ev_new rfl (by first | (go_simp; done) | (go_simp; rfl)) ?_); intro g3 w3 m; simp only [List.cons_append, List.nil_append] at m; have M := Lib.hid m; clear m)
        | ((with_reducible refine gate_dst (N := 4) rfl ?_); go_must (refine M.out.ev_new rfl (by first | (go_simp; done) | (go_simp; rfl)) ?_); intro g4 w4 m; simp only [List.cons_append, List.nil_append] at m; have M := Lib.hid m; clear m)
        | ((with_reducible refine gate_dst (N := 5) rfl ?_); go_must (refine M.out.ev_new rfl (by first | (go_simp; done) | (go_simp; rfl)) ?_); intro g5 w5 m; simp only [List.cons_append, List.nil_append] at m; have M := Lib.hid m; clear m)
        | ((with_reducible refine gate_dst (N := 19) rfl ?_); go_must (refine M.out.ev_ldw 1 _ _ rfl rfl rfl Try.underlying37 rfl (by first | exact sz37 | (rw [S1.out]; exact sz37) | (rw [S2.out]; exact sz37) | (rw [S3.out]; exact sz37)) rfl ?_))
        | ((with_reducible refine gate_dst (N := 31) rfl ?_); go_must (refine M.out.ev_ldw 2 _ _ rfl rfl rfl Try.underlying39 rfl (by first | exact sz39 | (rw [S1.out]; exact sz39) | (rw [S2.out]; exact sz39) | (rw [S3.out]; exact sz39)) rfl ?_))
        | ((with_reducible refine gate_dst (N := 11) rfl ?_); go_must (refine M.out.ev_new rfl (by first | (go_simp; done) | (go_simp; rfl)) ?_); intro g11 w11 m; simp only [List.cons_append, List.nil_append] at m; have M := Lib.hid m; clear m)
        | ((with_reducible refine gate_store (x := .tmp 11) rfl ?_); go_must (refine M.out.ev_stw 4 _ _ _ rfl rfl rfl rfl _ rfl (by first | rfl | (simp only [S1.out]; rfl) | (simp only [S1.out, S2.out]; rfl) | (simp only [S3.out]; rfl) | (simp only [S1.out, S2.out, S3.out]; rfl)) (by first | exact sz39 | (rw [S1.out]; exact sz39) | (rw [S2.out]; exact sz39) | (rw [S3.out]; exact sz39)) (by first | exact ints_one _ _ | exact Fld.one _ | exact O1.out | exact Cs.one _ | exact Net.one _ | exact Prices.one _ | rfl | (simp [Value.oneCell']; done)) rfl ?_); intro wn m; simp only [List.set_cons_succ, List.set_cons_zero, List.setIfInBounds_toArray] at m; have M := Lib.hid m; clear m)
        | ((with_reducible refine gate_dst (N := 33) rfl ?_); go_must (refine M.out.ev_ldw 4 _ _ rfl rfl rfl Try.underlying39 rfl (by first | exact sz39 | (rw [S1.out]; exact sz39) | (rw [S2.out]; exact sz39) | (rw [S3.out]; exact sz39)) rfl ?_))
        | ((with_reducible refine gate_dst (N := 46) rfl ?_); go_must (refine M.out.ev_ldw 1 _ _ rfl rfl rfl Try.underlying37 rfl (by first | exact sz37 | (rw [S1.out]; exact sz37) | (rw [S2.out]; exact sz37) | (rw [S3.out]; exact sz37)) rfl ?_))
        | ((with_reducible refine gate_dst (N := 57) rfl ?_); go_must (refine M.out.ev_ldw 4 _ _ rfl rfl rfl Try.underlying39 rfl (by first | exact sz39 | (rw [S1.out]; exact sz39) | (rw [S2.out]; exact sz39) | (rw [S3.out]; exact sz39)) rfl ?_))
        | ((with_reducible refine gate_dst (N := 80) rfl ?_); go_must (refine M.out.ev_ldw 4 _ _ rfl rfl rfl Try.underlying39 rfl (by first | exact sz39 | (rw [S1.out]; exact sz39) | (rw [S2.out]; exact sz39) | (rw [S3.out]; exact sz39)) rfl ?_))
        | ((with_reducible refine gate_store (x := .tmp 11) rfl ?_); go_must (refine M.out.ev_stw 4 _ _ _ rfl rfl rfl rfl _ rfl (by first | rfl | (simp only [S1.out]; rfl) | (simp only [S1.out, S2.out]; rfl) | (simp only [S3.out]; rfl) | (simp only [S1.out, S2.out, S3.out]; rfl)) (by first | exact sz39 | (rw [S1.out]; exact sz39) | (rw [S2.out]; exact sz39) | (rw [S3.out]; exact sz39)) (by first | exact ints_one _ _ | exact Fld.one _ | exact O1.out | exact Cs.one _ | exact Net.one _ | exact Prices.one _ | rfl | (simp [Value.oneCell']; done)) rfl ?_); intro wn m; simp only [List.set_cons_succ, List.set_cons_zero, List.setIfInBounds_toArray] at m; have M := Lib.hid m; clear m)
        | ((with_reducible refine gate_dst (N := 88) rfl ?_); go_must (refine M.out.ev_ldw 1 _ _ rfl rfl rfl Try.underlying37 rfl (by first | exact sz37 | (rw [S1.out]; exact sz37) | (rw [S2.out]; exact sz37) | (rw [S3.out]; exact sz37)) rfl ?_))
        | (go_at_call 31; go_must (refine (l04Priced_any g3 g5 F HF.out p hp c hc _ (M.out.blk 0 rfl) (M.out.blk 2 rfl)).mono ?_); rintro e w_ ⟨rfl, N_⟩; have m := M.out.join N_; clear N_; simp only [List.cons_append, List.nil_append, List.append_nil] at m; have M := Lib.hid m; clear m; rw [HK.out])
        | (go_at_call 33; go_must (refine (l04Wood_any g3 g5 F HF.out c hc _ (M.out.blk 0 rfl) (M.out.blk 2 rfl)).mono ?_); rintro e w_ ⟨rfl, N_⟩; have m := M.out.join N_; clear N_; simp only [List.cons_append, List.nil_append, List.append_nil] at m; have M := Lib.hid m; clear m; rw [HW.out])
        | ((with_reducible refine gate_dst (N := 30) rfl ?_); go_must (refine M.out.ev_bs0 elem_Net rfl rfl ?_); intro gv30 wv30 m; simp only [List.cons_append, List.nil_append] at m; have M := Lib.hid m; clear m)
        | (go_at_call 59; go_must (refine (l01Mask_any c hc _).mono ?_); rintro e w_ ⟨rfl, N_⟩; have m := M.out.join N_; clear N_; simp only [List.cons_append, List.nil_append, List.append_nil] at m; have M := Lib.hid m; clear m)
        )
      try simp only [Act.put, List.getElem_toArray, List.getElem_cons_succ, List.getElem_cons_zero, List.setIfInBounds_toArray, List.set_cons_succ, List.set_cons_zero]
      go_loopw [10] (fun s wr => ∃ (left : Cs) (out : List Net), GOk F p R left out ∧ lenOf s = out.length ∧ Mem w wr [.blk g3 35 F.cells, .blk g4 37 p.vals.toArray, .blk g5 39 c.cells, .row s 65 4 out.length (flat Net.vals out), .blk g11 39 left.cells])
        (fun s _ => 13 - lenOf s)
      case atStart => exact ⟨c.cut, [], GS.out, rfl, M.out⟩
      case round =>
        clear M GS
        obtain ⟨left, out, hgo, hlo, m⟩ := hrel
        have M := Lib.hid m
        have HGO := Lib.hid hgo
        have hlen := hgo.len
        have hlok := hgo.ok
        clear m
        obtain ⟨B, cB, rfl, hcB, _⟩ := M.out.row_slice 3 rfl
        clear hlo
        have heq := neqCs left Cs.z
        change ∀ w, (binOp .neq 39 (.agg left.cells) (.agg #[.int .u64 0, .int .u64 0])).run Try.prog w = _ at heq
        by_cases hz : left = Cs.z
        · subst hz
          rw [show Cs.z.same Cs.z = true from Cs.same_iff.2 rfl] at heq
          have hst := hgo.stop
          subst hst
          have hfits := hgo.fits
          have HPL := Lib.hid (show ∀ n ∈ out, n.plain = true from fun n hn => (Net.snug_of HV.out (hfits n hn)).1)
          clear hgo hfits
          go_wp2_with (first
            | ((with_reducible refine gate_dst (N := 3) rfl ?_); go_must (refine M.out.ev_new rfl (by first | (go_simp; done) | (go_simp; rfl)) ?_); intro g3 w3 m; simp only [List.cons_append, List.nil_append] at m; have M := Lib.hid m; clear m)
            | ((with_reducible refine gate_dst (N := 4) rfl ?_); go_must (refine M.out.ev_new rfl (by first | (go_simp; done) | (go_simp; rfl)) ?_); intro g4 w4 m; simp only [List.cons_append, List.nil_append] at m; have M := Lib.hid m; clear m)
            | ((with_reducible refine gate_dst (N := 5) rfl ?_); go_must (refine M.out.ev_new rfl (by first | (go_simp; done) | (go_simp; rfl)) ?_); intro g5 w5 m; simp only [List.cons_append, List.nil_append] at m; have M := Lib.hid m; clear m)
            | ((with_reducible refine gate_dst (N := 19) rfl ?_); go_must (refine M.out.ev_ldw 1 _ _ rfl rfl rfl Try.underlying37 rfl (by first | exact sz37 | (rw [S1.out]; exact sz37) | (rw [S2.out]; exact sz37) | (rw [S3.out]; exact sz37)) rfl ?_))
            | ((with_reducible refine gate_dst (N := 31) rfl ?_); go_must (refine M.out.ev_ldw 2 _ _ rfl rfl rfl Try.underlying39 rfl (by first | exact sz39 | (rw [S1.out]; exact sz39) | (rw [S2.out]; exact sz39) | (rw [S3.out]; exact sz39)) rfl ?_))
            | ((with_reducible refine gate_dst (N := 11) rfl ?_); go_must (refine M.out.ev_new rfl (by first | (go_simp; done) | (go_simp; rfl)) ?_); intro g11 w11 m; simp only [List.cons_append, List.nil_append] at m; have M := Lib.hid m; clear m)
            | ((with_reducible refine gate_store (x := .tmp 11) rfl ?_); go_must (refine M.out.ev_stw 4 _ _ _ rfl rfl rfl rfl _ rfl (by first | rfl | (simp only [S1.out]; rfl) | (simp only [S1.out, S2.out]; rfl) | (simp only [S3.out]; rfl) | (simp only [S1.out, S2.out, S3.out]; rfl)) (by first | exact sz39 | (rw [S1.out]; exact sz39) | (rw [S2.out]; exact sz39) | (rw [S3.out]; exact sz39)) (by first | exact ints_one _ _ | exact Fld.one _ | exact O1.out | exact Cs.one _ | exact Net.one _ | exact Prices.one _ | rfl | (simp [Value.oneCell']; done)) rfl ?_); intro wn m; simp only [List.set_cons_succ, List.set_cons_zero, List.setIfInBounds_toArray] at m; have M := Lib.hid m; clear m)
            | ((with_reducible refine gate_dst (N := 33) rfl ?_); go_must (refine M.out.ev_ldw 4 _ _ rfl rfl rfl Try.underlying39 rfl (by first | exact sz39 | (rw [S1.out]; exact sz39) | (rw [S2.out]; exact sz39) | (rw [S3.out]; exact sz39)) rfl ?_))
            | ((with_reducible refine gate_dst (N := 46) rfl ?_); go_must (refine M.out.ev_ldw 1 _ _ rfl rfl rfl Try.underlying37 rfl (by first | exact sz37 | (rw [S1.out]; exact sz37) | (rw [S2.out]; exact sz37) | (rw [S3.out]; exact sz37)) rfl ?_))
            | ((with_reducible refine gate_dst (N := 57) rfl ?_); go_must (refine M.out.ev_ldw 4 _ _ rfl rfl rfl Try.underlying39 rfl (by first | exact sz39 | (rw [S1.out]; exact sz39) | (rw [S2.out]; exact sz39) | (rw [S3.out]; exact sz39)) rfl ?_))
            | ((with_reducible refine gate_dst (N := 80) rfl ?_); go_must (refine M.out.ev_ldw 4 _ _ rfl rfl rfl Try.underlying39 rfl (by first | exact sz39 | (rw [S1.out]; exact sz39) | (rw [S2.out]; exact sz39) | (rw [S3.out]; exact sz39)) rfl ?_))
            | ((with_reducible refine gate_store (x := .tmp 11) rfl ?_); go_must (refine M.out.ev_stw 4 _ _ _ rfl rfl rfl rfl _ rfl (by first | rfl | (simp only [S1.out]; rfl) | (simp only [S1.out, S2.out]; rfl) | (simp only [S3.out]; rfl) | (simp only [S1.out, S2.out, S3.out]; rfl)) (by first | exact sz39 | (rw [S1.out]; exact sz39) | (rw [S2.out]; exact sz39) | (rw [S3.out]; exact sz39)) (by first | exact ints_one _ _ | exact Fld.one _ | exact O1.out | exact Cs.one _ | exact Net.one _ | exact Prices.one _ | rfl | (simp [Value.oneCell']; done)) rfl ?_); intro wn m; simp only [List.set_cons_succ, List.set_cons_zero, List.setIfInBounds_toArray] at m; have M := Lib.hid m; clear m)
            | ((with_reducible refine gate_dst (N := 88) rfl ?_); go_must (refine M.out.ev_ldw 1 _ _ rfl rfl rfl Try.underlying37 rfl (by first | exact sz37 | (rw [S1.out]; exact sz37) | (rw [S2.out]; exact sz37) | (rw [S3.out]; exact sz37)) rfl ?_))
            | (go_at_call 63; go_must (refine (l04Sum_any p HG.out B cB out HPL.out (by omega) _ (M.out.slof 3 rfl)).mono ?_); rintro e w_ ⟨rfl, N_⟩; have m := M.out.join N_; clear N_; simp only [List.cons_append, List.nil_append, List.append_nil] at m; have M := Lib.hid m; clear m)
            )
          go_ret3
          rw [HC.out]
          exact ⟨_, _, rfl, hcB, M.out.only [3] (K := [_]) rfl (by decide)⟩
        · rw [show left.same Cs.z = false by rw [← Bool.not_eq_true, Cs.same_iff]; exact hz] at heq
          obtain ⟨k, r, hall, k1, hk2, hne, hn, hb, hgo'⟩ := hgo.go HV.out hz
          have LC := Lib.hid (fun s => less_cut HGO.out.cut s)
          have hla : left.all.length ≤ 100 := left.below_len 100
          have hzl : ¬ (left.all.length = 0) := by rw [hall]; simp
          have hzi : (0 : Int) < (left.all.length : Int) := by omega
          have HGO' := Lib.hid hgo'
          have HALL := Lib.hid hall
          have HK2 := Lib.hid hk2
          have HN := Lib.hid hn
          have hnl := netsAt_len HV.out k1
          have hnp := List.length_pos_iff.2 hne
          obtain ⟨ns, hns⟩ : ∃ ns, ns = netsAt F k := ⟨_, rfl⟩
          rw [← hns] at HN HGO' hb hnl hnp
          have ALLN := Lib.hid (fun (w : World) hb => l04All_any g3 (t := 35) F HF.out HV.out k k1 HK2.out w hb)
          rw [← hns] at ALLN
          have HSB := Lib.hid (HN.out _ hb).1
          clear hgo hgo' hall hk2 hn hns hz hne hb
          go_wp2_with (first
            | ((with_reducible refine gate_dst (N := 3) rfl ?_); go_must (refine M.out.ev_new rfl (by first | (go_simp; done) | (go_simp; rfl)) ?_); intro g3 w3 m; simp only [List.cons_append, List.nil_append] at m; have M := Lib.hid m; clear m)
            | ((with_reducible refine gate_dst (N := 4) rfl ?_); go_must (refine M.out.ev_new rfl (by first | (go_simp; done) | (go_simp; rfl)) ?_); intro g4 w4 m; simp only [List.cons_append, List.nil_append] at m; have M := Lib.hid m; clear m)
            | ((with_reducible refine gate_dst (N := 5) rfl ?_); go_must (refine M.out.ev_new rfl (by first | (go_simp; done) | (go_simp; rfl)) ?_); intro g5 w5 m; simp only [List.cons_append, List.nil_append] at m; have M := Lib.hid m; clear m)
            | ((with_reducible refine gate_dst (N := 19) rfl ?_); go_must (refine M.out.ev_ldw 1 _ _ rfl rfl rfl Try.underlying37 rfl (by first | exact sz37 | (rw [S1.out]; exact sz37) | (rw [S2.out]; exact sz37) | (rw [S3.out]; exact sz37)) rfl ?_))
            | ((with_reducible refine gate_dst (N := 31) rfl ?_); go_must (refine M.out.ev_ldw 2 _ _ rfl rfl rfl Try.underlying39 rfl (by first | exact sz39 | (rw [S1.out]; exact sz39) | (rw [S2.out]; exact sz39) | (rw [S3.out]; exact sz39)) rfl ?_))
            | ((with_reducible refine gate_dst (N := 11) rfl ?_); go_must (refine M.out.ev_new rfl (by first | (go_simp; done) | (go_simp; rfl)) ?_); intro g11 w11 m; simp only [List.cons_append, List.nil_append] at m; have M := Lib.hid m; clear m)
            | ((with_reducible refine gate_store (x := .tmp 11) rfl ?_); go_must (refine M.out.ev_stw 4 _ _ _ rfl rfl rfl rfl _ rfl (by first | rfl | (simp only [S1.out]; rfl) | (simp only [S1.out, S2.out]; rfl) | (simp only [S3.out]; rfl) | (simp only [S1.out, S2.out, S3.out]; rfl)) (by first | exact sz39 | (rw [S1.out]; exact sz39) | (rw [S2.out]; exact sz39) | (rw [S3.out]; exact sz39)) (by first | exact ints_one _ _ | exact Fld.one _ | exact O1.out | exact Cs.one _ | exact Net.one _ | exact Prices.one _ | rfl | (simp [Value.oneCell']; done)) rfl ?_); intro wn m; simp only [List.set_cons_succ, List.set_cons_zero, List.setIfInBounds_toArray] at m; have M := Lib.hid m; clear m)
            | ((with_reducible refine gate_dst (N := 33) rfl ?_); go_must (refine M.out.ev_ldw 4 _ _ rfl rfl rfl Try.underlying39 rfl (by first | exact sz39 | (rw [S1.out]; exact sz39) | (rw [S2.out]; exact sz39) | (rw [S3.out]; exact sz39)) rfl ?_))
            | ((with_reducible refine gate_dst (N := 46) rfl ?_); go_must (refine M.out.ev_ldw 1 _ _ rfl rfl rfl Try.underlying37 rfl (by first | exact sz37 | (rw [S1.out]; exact sz37) | (rw [S2.out]; exact sz37) | (rw [S3.out]; exact sz37)) rfl ?_))
            | ((with_reducible refine gate_dst (N := 57) rfl ?_); go_must (refine M.out.ev_ldw 4 _ _ rfl rfl rfl Try.underlying39 rfl (by first | exact sz39 | (rw [S1.out]; exact sz39) | (rw [S2.out]; exact sz39) | (rw [S3.out]; exact sz39)) rfl ?_))
            | ((with_reducible refine gate_dst (N := 80) rfl ?_); go_must (refine M.out.ev_ldw 4 _ _ rfl rfl rfl Try.underlying39 rfl (by first | exact sz39 | (rw [S1.out]; exact sz39) | (rw [S2.out]; exact sz39) | (rw [S3.out]; exact sz39)) rfl ?_))
            | ((with_reducible refine gate_store (x := .tmp 11) rfl ?_); go_must (refine M.out.ev_stw 4 _ _ _ rfl rfl rfl rfl _ rfl (by first | rfl | (simp only [S1.out]; rfl) | (simp only [S1.out, S2.out]; rfl) | (simp only [S3.out]; rfl) | (simp only [S1.out, S2.out, S3.out]; rfl)) (by first | exact sz39 | (rw [S1.out]; exact sz39) | (rw [S2.out]; exact sz39) | (rw [S3.out]; exact sz39)) (by first | exact ints_one _ _ | exact Fld.one _ | exact O1.out | exact Cs.one _ | exact Net.one _ | exact Prices.one _ | rfl | (simp [Value.oneCell']; done)) rfl ?_); intro wn m; simp only [List.set_cons_succ, List.set_cons_zero, List.setIfInBounds_toArray] at m; have M := Lib.hid m; clear m)
            | ((with_reducible refine gate_dst (N := 88) rfl ?_); go_must (refine M.out.ev_ldw 1 _ _ rfl rfl rfl Try.underlying37 rfl (by first | exact sz37 | (rw [S1.out]; exact sz37) | (rw [S2.out]; exact sz37) | (rw [S3.out]; exact sz37)) rfl ?_))
            | (go_at_call 34; go_must (refine (l01List_any g11 _ hlok _ (M.out.blk 4 rfl)).mono ?_); rintro e w_ ⟨A_, c_, rfl, hc_, N_⟩; have m := M.out.join N_; clear N_; simp only [List.cons_append, List.nil_append, List.append_nil] at m; have M := Lib.hid m; clear m; obtain ⟨b, off, rfl, hrg⟩ := (M.out.slof 5 rfl).2 (by omega); have x0 : w_.cell? ⟨b, off, none⟩ = some (.int .i64 (k : Int)) := (by have R := range_at one64_len hrg (k := 0) (by rw [HALL.out]; rfl); simpa [nat64] using R 0 _ rfl); clear hrg)
            | (go_at_call 35; go_must (refine (ALLN.out _ (M.out.blk 0 rfl)).mono ?_); rintro e w_ ⟨A2, c2, rfl, hc2, N_⟩; have m := M.out.join N_; clear N_; simp only [List.cons_append, List.nil_append, List.append_nil] at m; have M := Lib.hid m; clear m)
            )
          clear heq
          obtain ⟨nb, noff, rfl, _⟩ := (M.out.slof 6 rfl).2 hnp
          go_loopw [13, 14, 15, 16] (fun bi u v x wr => ∃ (i : Nat) (q : Int), i ≤ ns.length ∧ x = .int .i64 i ∧ bi = .int .i64 q ∧ ((i = 0 ∧ q = -1) ∨ (0 < i ∧ ∃ j : Nat, q = j ∧ ns[j]? = some (gTo p left ns i).1)) ∧ u = .int .i64 (gTo p left ns i).2.1 ∧ v = .int .i64 ((gTo p left ns i).2.2 : Nat) ∧ Mem w wr [.blk g3 35 F.cells, .blk g4 37 p.vals.toArray, .blk g5 39 c.cells, .row (.slice B out.length cB) 65 4 out.length (flat Net.vals out), .blk g11 39 left.cells, .row (.slice (some ⟨b, off, none⟩) left.all.length c_) 2 1 left.all.length (flat one64 left.all), .row (.slice (some ⟨nb, noff, none⟩) ns.length c2) 65 4 ns.length (flat Net.vals ns)])
            (fun _ _ _ x _ => ns.length - (intOf x).toNat)
          case atStart => exact ⟨0, -1, by omega, rfl, rfl, .inl ⟨rfl, rfl⟩, rfl, rfl, M.out⟩
          case round =>
            clear M x0
            obtain ⟨i, q, hi, rfl, rfl, hq, rfl, rfl, m⟩ := hrel
            have M := Lib.hid m
            clear m
            by_cases hlt : i < ns.length
            · have hr := (M.out.slof 6 rfl).range hnp
              have hxk : ns[i]? = some ns[i] := List.getElem?_eq_getElem hlt
              have HXK := Lib.hid hxk
              have HSU := Lib.hid (gTo_succ p left hlt)
              obtain ⟨⟨hpl, hx10, hy10⟩, hcp⟩ := HN.out ns[i] (List.getElem_mem hlt)
              have hca := (costOk HG.out hpl).k
              have hcl := cnt_le left ns[i]
              have i0 : (0 : Int) ≤ (i : Int) := by omega
              have i1 : (i : Int) < (ns.length : Int) := by omega
              have hg : ((i = 0 ∧ (gTo p left ns i).2.2 = 0) ∨ (0 < i ∧ (gTo p left ns i).2.2 ≠ 0)) ∧ (gTo p left ns i).2.2 ≤ 100 ∧ 0 ≤ (gTo p left ns i).2.1 ∧ (gTo p left ns i).2.1 ≤ 14100 := by
                rcases gTo_mem p left (fun n hn => (HN.out n hn).2) i hi with ⟨h0, he⟩ | ⟨h0, n, hn, he⟩
                · rw [he]; exact ⟨.inl ⟨h0, rfl⟩, by decide, by decide, by decide⟩
                · rw [he]
                  have := (costOk HG.out (HN.out n hn).1.1).k
                  have h2 := (HN.out n hn).2
                  exact ⟨.inr ⟨h0, Nat.ne_of_gt h2⟩, cnt_le _ _, this.1, this.2⟩
              obtain ⟨x, hx⟩ : ∃ x, x = ns[i] := ⟨_, rfl⟩
              rw [← hx] at HXK HSU hpl hx10 hy10 hcp hca hcl
              have CB := Lib.hid (cnt_and left x)
              obtain ⟨s, hs⟩ : ∃ s, s = gTo p left ns i := ⟨_, rfl⟩
              rw [← hs] at HSU hg hq
              rw [← hs]
              obtain ⟨N0, c0, k0⟩ := s
              obtain ⟨a, ha⟩ : ∃ a, a = netCost p x := ⟨_, rfl⟩
              obtain ⟨b0, hb0⟩ : ∃ b0, b0 = cnt left x := ⟨_, rfl⟩
              have CA := Lib.hid ha.symm
              rw [← ha] at hca
              rw [← hb0] at CB hcl hcp
              have HST : gTo p left ns (i + 1) = if (decide (k0 = 0) || decide (a * (k0 : Int) < c0 * (b0 : Int))) = true then (x, a, b0) else (N0, c0, k0) := by
                rw [HSU.out, gStep, ← ha, ← hb0]
              have HST := Lib.hid HST
              dsimp only at hg hq ⊢
              obtain ⟨g0', g1, g2, g3'⟩ := hg
              have VN := Lib.hid (Net.one x)
              have CO := Lib.hid (show (netSet x).ok from pset_ok _)
              have OKX := Lib.hid (show x.ok by
                obtain ⟨⟨a0, a1⟩, ⟨b0, b1⟩, ⟨c0, c1⟩, ⟨d0, d1⟩⟩ := Net.plain_iff.1 hpl
                exact ⟨by omega, by omega, by omega, by omega⟩)
              have m1 := mulB hca.1 hca.2 (by omega : (0 : Int) ≤ (k0 : Int)) (by omega : (k0 : Int) ≤ 100)
              have m2 := mulB g2 g3' (by omega : (0 : Int) ≤ (b0 : Int)) (by omega : (b0 : Int) ≤ 100)
              have w1 : IntKind.i64.wrap (a * (k0 : Int)) = a * (k0 : Int) := IntWalk.i64_in _ (by omega)
              have w2 : IntKind.i64.wrap (c0 * (b0 : Int)) = c0 * (b0 : Int) := IntWalk.i64_in _ (by omega)
              clear hx hs ha hb0 HSU hxk m1 m2 hca g2 g3' hr
              by_cases q1 : k0 = 0 <;> by_cases q2 : a * (k0 : Int) < c0 * (b0 : Int)
              all_goals
                have HS2 := HST.out
                first
                  | rw [decide_eq_true q1, Bool.true_or, if_pos rfl] at HS2
                  | rw [decide_eq_true q2, Bool.or_true, if_pos rfl] at HS2
                  | rw [decide_eq_false q1, decide_eq_false q2, Bool.or_false, if_neg (by decide)] at HS2
                have HS2 := Lib.hid HS2
                have hq' : (k0 = 0 ∧ q = -1) ∨ (¬ k0 = 0 ∧ ∃ j : Nat, q = j ∧ ns[j]? = some N0) := by
                  rcases g0' with ⟨h1, h2⟩ | ⟨h1, h2⟩
                  · rcases hq with ⟨_, h4⟩ | ⟨h3, _⟩
                    · exact .inl ⟨h2, h4⟩
                    · omega
                  · rcases hq with ⟨h3, _⟩ | ⟨_, h4⟩
                    · omega
                    · exact .inr ⟨h2, h4⟩
                clear g0' hq
                rcases hq' with ⟨z1, rfl⟩ | ⟨z1, j, rfl, hj⟩
                all_goals first
                  | (exfalso; exact q1 z1)
                  | (exfalso; exact z1 q1)
                  | skip
                have hj0 : True ∨ ns[0]? = none := .inl trivial
                try have HJ := Lib.hid hj
                try clear hj
                try have jn : ¬ ((j : Int) < 0) := by omega
                go_wp2
                refine region_anyH (fun w' => Mem w w' [.blk g3 35 F.cells, .blk g4 37 p.vals.toArray, .blk g5 39 c.cells, .row (.slice B out.length cB) 65 4 out.length (flat Net.vals out), .blk g11 39 left.cells, .row (.slice (some ⟨b, off, none⟩) left.all.length c_) 2 1 left.all.length (flat one64 left.all), .row (.slice (some ⟨nb, noff, none⟩) ns.length c2) 65 4 ns.length (flat Net.vals ns)]) (by kernel_rfl) ?_
                have m := M.out.drew
                clear M
                have M := Lib.hid m
                clear m
                apply takeH (i := 0) 46 rfl (by kernel_rfl) (by kernel_rfl) (by kernel_rfl) (fun _ _ _ h => h) rfl (by first | exact M.out | exact M.out.take 7)
                case' hy => exact yldw _ _ rfl rfl Try.underlying37 rfl (by first | exact sz37 | (rw [S1.out]; exact sz37) | (rw [S2.out]; exact sz37) | (rw [S3.out]; exact sz37)) rfl (fun w' hS => hS.blk 1 rfl)
                try simp only [Act.put, List.getElem_toArray, List.getElem_cons_succ, List.getElem_cons_zero, List.setIfInBounds_toArray, List.set_cons_succ, List.set_cons_zero]
                apply takeH (i := 1) 47 rfl (by kernel_rfl) (by kernel_rfl) (by kernel_rfl) (fun _ _ _ h => h) rfl (by first | exact M.out | exact M.out.take 7)
                case' hy =>
                  refine Or.inl ⟨by first | rfl | (go_simp; done), ?_⟩
                  intro w hS
                  clear hS
                  go_simp
                  try with_reducible rfl
                try simp only [Act.put, List.getElem_toArray, List.getElem_cons_succ, List.getElem_cons_zero, List.setIfInBounds_toArray, List.set_cons_succ, List.set_cons_zero]
                apply takeH (i := 2) 48 rfl (by kernel_rfl) (by kernel_rfl) (by kernel_rfl) (fun _ _ _ h => h) rfl (by first | exact M.out | exact M.out.take 7)
                case' hy =>
                  refine Or.inl ⟨by first | rfl | (go_simp; done), ?_⟩
                  intro w hS
                  clear hS
                  go_simp
                  try with_reducible rfl
                try simp only [Act.put, List.getElem_toArray, List.getElem_cons_succ, List.getElem_cons_zero, List.setIfInBounds_toArray, List.set_cons_succ, List.set_cons_zero]
                apply takeH (i := 3) 49 rfl (by kernel_rfl) (by kernel_rfl) (by kernel_rfl) (fun _ _ _ h => h) rfl (by first | exact M.out | exact M.out.take 7)
                case' hy =>
                  refine Or.inl ⟨by first | rfl | (go_simp; done), ?_⟩
                  intro w hS
                  clear hS
                  go_simp
                  try with_reducible rfl
                try simp only [Act.put, List.getElem_toArray, List.getElem_cons_succ, List.getElem_cons_zero, List.setIfInBounds_toArray, List.set_cons_succ, List.set_cons_zero]
                refine any1H 4 (by kernel_rfl) rfl (fun K hK => ?_)
                go_wp2_with (first | ((with_reducible refine gate_dst (N := 46) rfl ?_); go_must (refine M.out.ev_ldw 1 _ _ rfl rfl rfl Try.underlying37 rfl (by first | exact sz37 | (rw [S1.out]; exact sz37) | (rw [S2.out]; exact sz37) | (rw [S3.out]; exact sz37)) rfl ?_)) | ((with_reducible refine gate_dst (N := 50) rfl ?_); go_must (refine ev_ldr _ _ rfl rfl (range_at Net.vl ((M.out.slof 6 rfl).range hnp) HXK.out) Try.underlying65 rfl (by first | exact sz65 | (rw [S1.out]; exact sz65)) rfl ?_)) | (go_at_call 37; go_must (refine (l04Cost_any p HG.out x hpl _).mono ?_); rintro e w_ ⟨rfl, N_⟩; have m := M.out.join N_; clear N_; simp only [List.cons_append, List.nil_append, List.append_nil] at m; have M := Lib.hid m; clear m; rw [CA.out]))
                refine onward_normal (hK _ _ ⟨(by first | exact M.out | exact M.out.take 7), ?_⟩)
                clear hK K
                try simp only [Act.put, List.getElem_toArray, List.getElem_cons_succ, List.getElem_cons_zero, List.setIfInBounds_toArray, List.set_cons_succ, List.set_cons_zero]
                refine any1H 5 (by kernel_rfl) rfl (fun K hK => ?_)
                go_wp2_with (first | ((with_reducible refine gate_dst (N := 46) rfl ?_); go_must (refine M.out.ev_ldw 1 _ _ rfl rfl rfl Try.underlying37 rfl (by first | exact sz37 | (rw [S1.out]; exact sz37) | (rw [S2.out]; exact sz37) | (rw [S3.out]; exact sz37)) rfl ?_)) | ((with_reducible refine gate_dst (N := 50) rfl ?_); go_must (refine ev_ldr _ _ rfl rfl (range_at Net.vl ((M.out.slof 6 rfl).range hnp) HXK.out) Try.underlying65 rfl (by first | exact sz65 | (rw [S1.out]; exact sz65)) rfl ?_)) | (go_at_call 37; go_must (refine (l04Cost_any p HG.out x hpl _).mono ?_); rintro e w_ ⟨rfl, N_⟩; have m := M.out.join N_; clear N_; simp only [List.cons_append, List.nil_append, List.append_nil] at m; have M := Lib.hid m; clear m; rw [CA.out]))
                refine onward_normal (hK _ _ ⟨(by first | exact M.out | exact M.out.take 7), ?_⟩)
                clear hK K
                try simp only [Act.put, List.getElem_toArray, List.getElem_cons_succ, List.getElem_cons_zero, List.setIfInBounds_toArray, List.set_cons_succ, List.set_cons_zero]
                apply takeH (i := 6) 17 rfl (by kernel_rfl) (by kernel_rfl) (by kernel_rfl) (fun _ _ _ h => h) rfl (by first | exact M.out | exact M.out.take 7)
                case' hy =>
                  refine Or.inl ⟨by first | rfl | (go_simp; done), ?_⟩
                  intro w hS
                  clear hS
                  go_simp
                  try with_reducible rfl
                try simp only [Act.put, List.getElem_toArray, List.getElem_cons_succ, List.getElem_cons_zero, List.setIfInBounds_toArray, List.set_cons_succ, List.set_cons_zero]
                refine wpAnyH_done (by kernel_rfl) ?_ _
                go_wp2
                refine region_anyH (fun w' => Mem w w' [.blk g3 35 F.cells, .blk g4 37 p.vals.toArray, .blk g5 39 c.cells, .row (.slice B out.length cB) 65 4 out.length (flat Net.vals out), .blk g11 39 left.cells, .row (.slice (some ⟨b, off, none⟩) left.all.length c_) 2 1 left.all.length (flat one64 left.all), .row (.slice (some ⟨nb, noff, none⟩) ns.length c2) 65 4 ns.length (flat Net.vals ns)]) (by kernel_rfl) ?_
                have m := M.out.drew
                clear M
                have M := Lib.hid m
                clear m
                apply takeH (i := 0) 52 rfl (by kernel_rfl) (by kernel_rfl) (by kernel_rfl) (fun _ _ _ h => h) rfl (by first | exact M.out | exact M.out.take 7)
                case' hy =>
                  refine Or.inl ⟨by first | rfl | (go_simp; done), ?_⟩
                  intro w hS
                  clear hS
                  go_simp
                  try with_reducible rfl
                try simp only [Act.put, List.getElem_toArray, List.getElem_cons_succ, List.getElem_cons_zero, List.setIfInBounds_toArray, List.set_cons_succ, List.set_cons_zero]
                apply takeH (i := 1) 53 rfl (by kernel_rfl) (by kernel_rfl) (by kernel_rfl) (fun _ _ _ h => h) rfl (by first | exact M.out | exact M.out.take 7)
                case' hy =>
                  refine Or.inl ⟨by first | rfl | (go_simp; done), ?_⟩
                  intro w hS
                  clear hS
                  go_simp
                  try with_reducible rfl
                try simp only [Act.put, List.getElem_toArray, List.getElem_cons_succ, List.getElem_cons_zero, List.setIfInBounds_toArray, List.set_cons_succ, List.set_cons_zero]
                apply takeH (i := 2) 54 rfl (by kernel_rfl) (by kernel_rfl) (by kernel_rfl) (fun _ _ _ h => h) rfl (by first | exact M.out | exact M.out.take 7)
                case' hy =>
                  refine Or.inl ⟨by first | rfl | (go_simp; done), ?_⟩
                  intro w hS
                  clear hS
                  go_simp
                  try with_reducible rfl
                try simp only [Act.put, List.getElem_toArray, List.getElem_cons_succ, List.getElem_cons_zero, List.setIfInBounds_toArray, List.set_cons_succ, List.set_cons_zero]
                apply takeH (i := 5) 57 rfl (by kernel_rfl) (by kernel_rfl) (by kernel_rfl) (fun _ _ _ h => h) rfl (by first | exact M.out | exact M.out.take 7)
                case' hy => exact yldw _ _ rfl rfl Try.underlying39 rfl (by first | exact sz39 | (rw [S1.out]; exact sz39) | (rw [S2.out]; exact sz39) | (rw [S3.out]; exact sz39)) rfl (fun w' hS => hS.blk 4 rfl)
                try simp only [Act.put, List.getElem_toArray, List.getElem_cons_succ, List.getElem_cons_zero, List.setIfInBounds_toArray, List.set_cons_succ, List.set_cons_zero]
                refine any1H 3 (by kernel_rfl) rfl (fun K hK => ?_)
                go_wp2_with (first | ((with_reducible refine gate_dst (N := 57) rfl ?_); go_must (refine M.out.ev_ldw 4 _ _ rfl rfl rfl Try.underlying39 rfl (by first | exact sz39 | (rw [S1.out]; exact sz39) | (rw [S2.out]; exact sz39) | (rw [S3.out]; exact sz39)) rfl ?_)) | ((with_reducible refine gate_dst (N := 55) rfl ?_); go_must (refine ev_ldr _ _ rfl rfl (range_at Net.vl ((M.out.slof 6 rfl).range hnp) HXK.out) Try.underlying65 rfl (by first | exact sz65 | (rw [S1.out]; exact sz65)) rfl ?_)) | (go_at_call 61; go_must (refine (l04Under_any x OKX.out _).mono ?_); rintro e w_ ⟨rfl, N_⟩; have m := M.out.join N_; clear N_; simp only [List.cons_append, List.nil_append, List.append_nil] at m; have M := Lib.hid m; clear m) | (go_at_call 60; go_must (refine (l04Count_any _ _ CO.out hlok _).mono ?_); rintro e w_ ⟨rfl, N_⟩; have m := M.out.join N_; clear N_; simp only [List.cons_append, List.nil_append, List.append_nil] at m; have M := Lib.hid m; clear m; rw [CB.out]))
                refine onward_normal (hK _ _ ⟨(by first | exact M.out | exact M.out.take 7), ?_⟩)
                clear hK K
                try simp only [Act.put, List.getElem_toArray, List.getElem_cons_succ, List.getElem_cons_zero, List.setIfInBounds_toArray, List.set_cons_succ, List.set_cons_zero]
                refine any1H 4 (by kernel_rfl) rfl (fun K hK => ?_)
                go_wp2_with (first | ((with_reducible refine gate_dst (N := 57) rfl ?_); go_must (refine M.out.ev_ldw 4 _ _ rfl rfl rfl Try.underlying39 rfl (by first | exact sz39 | (rw [S1.out]; exact sz39) | (rw [S2.out]; exact sz39) | (rw [S3.out]; exact sz39)) rfl ?_)) | ((with_reducible refine gate_dst (N := 55) rfl ?_); go_must (refine ev_ldr _ _ rfl rfl (range_at Net.vl ((M.out.slof 6 rfl).range hnp) HXK.out) Try.underlying65 rfl (by first | exact sz65 | (rw [S1.out]; exact sz65)) rfl ?_)) | (go_at_call 61; go_must (refine (l04Under_any x OKX.out _).mono ?_); rintro e w_ ⟨rfl, N_⟩; have m := M.out.join N_; clear N_; simp only [List.cons_append, List.nil_append, List.append_nil] at m; have M := Lib.hid m; clear m) | (go_at_call 60; go_must (refine (l04Count_any _ _ CO.out hlok _).mono ?_); rintro e w_ ⟨rfl, N_⟩; have m := M.out.join N_; clear N_; simp only [List.cons_append, List.nil_append, List.append_nil] at m; have M := Lib.hid m; clear m; rw [CB.out]))
                refine onward_normal (hK _ _ ⟨(by first | exact M.out | exact M.out.take 7), ?_⟩)
                clear hK K
                try simp only [Act.put, List.getElem_toArray, List.getElem_cons_succ, List.getElem_cons_zero, List.setIfInBounds_toArray, List.set_cons_succ, List.set_cons_zero]
                refine any1H 6 (by kernel_rfl) rfl (fun K hK => ?_)
                go_wp2_with (first | ((with_reducible refine gate_dst (N := 57) rfl ?_); go_must (refine M.out.ev_ldw 4 _ _ rfl rfl rfl Try.underlying39 rfl (by first | exact sz39 | (rw [S1.out]; exact sz39) | (rw [S2.out]; exact sz39) | (rw [S3.out]; exact sz39)) rfl ?_)) | ((with_reducible refine gate_dst (N := 55) rfl ?_); go_must (refine ev_ldr _ _ rfl rfl (range_at Net.vl ((M.out.slof 6 rfl).range hnp) HXK.out) Try.underlying65 rfl (by first | exact sz65 | (rw [S1.out]; exact sz65)) rfl ?_)) | (go_at_call 61; go_must (refine (l04Under_any x OKX.out _).mono ?_); rintro e w_ ⟨rfl, N_⟩; have m := M.out.join N_; clear N_; simp only [List.cons_append, List.nil_append, List.append_nil] at m; have M := Lib.hid m; clear m) | (go_at_call 60; go_must (refine (l04Count_any _ _ CO.out hlok _).mono ?_); rintro e w_ ⟨rfl, N_⟩; have m := M.out.join N_; clear N_; simp only [List.cons_append, List.nil_append, List.append_nil] at m; have M := Lib.hid m; clear m; rw [CB.out]))
                refine onward_normal (hK _ _ ⟨(by first | exact M.out | exact M.out.take 7), ?_⟩)
                clear hK K
                try simp only [Act.put, List.getElem_toArray, List.getElem_cons_succ, List.getElem_cons_zero, List.setIfInBounds_toArray, List.set_cons_succ, List.set_cons_zero]
                apply takeH (i := 7) 18 rfl (by kernel_rfl) (by kernel_rfl) (by kernel_rfl) (fun _ _ _ h => h) rfl (by first | exact M.out | exact M.out.take 7)
                case' hy =>
                  refine Or.inl ⟨by first | rfl | (go_simp; done), ?_⟩
                  intro w hS
                  clear hS
                  go_simp
                  try with_reducible rfl
                try simp only [Act.put, List.getElem_toArray, List.getElem_cons_succ, List.getElem_cons_zero, List.setIfInBounds_toArray, List.set_cons_succ, List.set_cons_zero]
                refine wpAnyH_done (by kernel_rfl) ?_ _
                go_wp2
                first
                  | exact ⟨⟨i + 1, i, by omega, by go_num, rfl, .inr ⟨by omega, i, rfl, by rw [HS2.out]; exact HXK.out⟩, by rw [HS2.out], by rw [HS2.out], M.out.take 7⟩, by simp [intOf]; try omega⟩
                  | exact ⟨⟨i + 1, j, by omega, by go_num, rfl, .inr ⟨by omega, j, rfl, by rw [HS2.out]; exact HJ.out⟩, by rw [HS2.out], by rw [HS2.out], M.out.take 7⟩, by simp [intOf]; try omega⟩
            · obtain rfl : i = ns.length := by omega
              obtain ⟨j, rfl, hj⟩ : ∃ j : Nat, q = j ∧ ns[j]? = some (gTo p left ns ns.length).1 := by
                rcases hq with ⟨h0, _⟩ | ⟨_, h1⟩
                · omega
                · exact h1
              have hjl : j < ns.length := (List.getElem?_eq_some_iff.1 hj).1
              have HJ := Lib.hid hj
              obtain ⟨y, hy⟩ : ∃ y, y = gBest p left ns := ⟨_, rfl⟩
              rw [show (gTo p left ns ns.length).1 = y from hy.symm] at HJ
              rw [← hy] at HSB HGO'
              clear hy hq hj
              obtain ⟨hpl, hx10, hy10⟩ := HSB.out
              have VN := Lib.hid (Net.one y)
              have CO := Lib.hid (Cs.one (left.less (netSet y)))
              have OKY := Lib.hid (show y.ok by
                obtain ⟨⟨a0, a1⟩, ⟨b0, b1⟩, ⟨c0, c1⟩, ⟨d0, d1⟩⟩ := Net.plain_iff.1 hpl
                exact ⟨by omega, by omega, by omega, by omega⟩)
              have i1 : ¬ ((ns.length : Int) < (ns.length : Int)) := by omega
              have j0 : (0 : Int) ≤ (j : Int) := by omega
              have j1 : (j : Int) < (ns.length : Int) := by omega
              go_wp2_with (first
                | ((with_reducible refine gate_dst (N := 3) rfl ?_); go_must (refine M.out.ev_new rfl (by first | (go_simp; done) | (go_simp; rfl)) ?_); intro g3 w3 m; simp only [List.cons_append, List.nil_append] at m; have M := Lib.hid m; clear m)
                | ((with_reducible refine gate_dst (N := 4) rfl ?_); go_must (refine M.out.ev_new rfl (by first | (go_simp; done) | (go_simp; rfl)) ?_); intro g4 w4 m; simp only [List.cons_append, List.nil_append] at m; have M := Lib.hid m; clear m)
                | ((with_reducible refine gate_dst (N := 5) rfl ?_); go_must (refine M.out.ev_new rfl (by first | (go_simp; done) | (go_simp; rfl)) ?_); intro g5 w5 m; simp only [List.cons_append, List.nil_append] at m; have M := Lib.hid m; clear m)
                | ((with_reducible refine gate_dst (N := 19) rfl ?_); go_must (refine M.out.ev_ldw 1 _ _ rfl rfl rfl Try.underlying37 rfl (by first | exact sz37 | (rw [S1.out]; exact sz37) | (rw [S2.out]; exact sz37) | (rw [S3.out]; exact sz37)) rfl ?_))
                | ((with_reducible refine gate_dst (N := 31) rfl ?_); go_must (refine M.out.ev_ldw 2 _ _ rfl rfl rfl Try.underlying39 rfl (by first | exact sz39 | (rw [S1.out]; exact sz39) | (rw [S2.out]; exact sz39) | (rw [S3.out]; exact sz39)) rfl ?_))
                | ((with_reducible refine gate_dst (N := 11) rfl ?_); go_must (refine M.out.ev_new rfl (by first | (go_simp; done) | (go_simp; rfl)) ?_); intro g11 w11 m; simp only [List.cons_append, List.nil_append] at m; have M := Lib.hid m; clear m)
                | ((with_reducible refine gate_store (x := .tmp 11) rfl ?_); go_must (refine M.out.ev_stw 4 _ _ _ rfl rfl rfl rfl _ rfl (by first | rfl | (simp only [S1.out]; rfl) | (simp only [S1.out, S2.out]; rfl) | (simp only [S3.out]; rfl) | (simp only [S1.out, S2.out, S3.out]; rfl)) (by first | exact sz39 | (rw [S1.out]; exact sz39) | (rw [S2.out]; exact sz39) | (rw [S3.out]; exact sz39)) (by first | exact ints_one _ _ | exact Fld.one _ | exact O1.out | exact Cs.one _ | exact Net.one _ | exact Prices.one _ | rfl | (simp [Value.oneCell']; done)) rfl ?_); intro wn m; simp only [List.set_cons_succ, List.set_cons_zero, List.setIfInBounds_toArray] at m; have M := Lib.hid m; clear m)
                | ((with_reducible refine gate_dst (N := 33) rfl ?_); go_must (refine M.out.ev_ldw 4 _ _ rfl rfl rfl Try.underlying39 rfl (by first | exact sz39 | (rw [S1.out]; exact sz39) | (rw [S2.out]; exact sz39) | (rw [S3.out]; exact sz39)) rfl ?_))
                | ((with_reducible refine gate_dst (N := 46) rfl ?_); go_must (refine M.out.ev_ldw 1 _ _ rfl rfl rfl Try.underlying37 rfl (by first | exact sz37 | (rw [S1.out]; exact sz37) | (rw [S2.out]; exact sz37) | (rw [S3.out]; exact sz37)) rfl ?_))
                | ((with_reducible refine gate_dst (N := 57) rfl ?_); go_must (refine M.out.ev_ldw 4 _ _ rfl rfl rfl Try.underlying39 rfl (by first | exact sz39 | (rw [S1.out]; exact sz39) | (rw [S2.out]; exact sz39) | (rw [S3.out]; exact sz39)) rfl ?_))
                | ((with_reducible refine gate_dst (N := 80) rfl ?_); go_must (refine M.out.ev_ldw 4 _ _ rfl rfl rfl Try.underlying39 rfl (by first | exact sz39 | (rw [S1.out]; exact sz39) | (rw [S2.out]; exact sz39) | (rw [S3.out]; exact sz39)) rfl ?_))
                | ((with_reducible refine gate_store (x := .tmp 11) rfl ?_); go_must (refine M.out.ev_stw 4 _ _ _ rfl rfl rfl rfl _ rfl (by first | rfl | (simp only [S1.out]; rfl) | (simp only [S1.out, S2.out]; rfl) | (simp only [S3.out]; rfl) | (simp only [S1.out, S2.out, S3.out]; rfl)) (by first | exact sz39 | (rw [S1.out]; exact sz39) | (rw [S2.out]; exact sz39) | (rw [S3.out]; exact sz39)) (by first | exact ints_one _ _ | exact Fld.one _ | exact O1.out | exact Cs.one _ | exact Net.one _ | exact Prices.one _ | rfl | (simp [Value.oneCell']; done)) rfl ?_); intro wn m; simp only [List.set_cons_succ, List.set_cons_zero, List.setIfInBounds_toArray] at m; have M := Lib.hid m; clear m)
                | ((with_reducible refine gate_dst (N := 88) rfl ?_); go_must (refine M.out.ev_ldw 1 _ _ rfl rfl rfl Try.underlying37 rfl (by first | exact sz37 | (rw [S1.out]; exact sz37) | (rw [S2.out]; exact sz37) | (rw [S3.out]; exact sz37)) rfl ?_))
                | ((with_reducible refine gate_dst (N := 77) rfl ?_); go_must (refine ev_ldr _ _ rfl rfl (range_at Net.vl ((M.out.slof 6 rfl).range hnp) HJ.out) Try.underlying65 rfl (by first | exact sz65 | (rw [S1.out]; exact sz65)) rfl ?_))
                | ((with_reducible refine gate_dst (N := 78) rfl ?_); go_must (refine M.out.ev_bs1 elem_Net rfl _ rfl y.vals.toArray rfl rfl (by decide) ?_); intro g78 w78 m; simp only [List.cons_append, List.nil_append] at m; have M := Lib.hid m; clear m)
                | ((with_reducible refine gate_dst (N := 79) rfl ?_); go_must (refine M.out.ev_append1 3 7 elem_Net rfl _ _ rfl rfl rfl rfl rfl rfl (VN.out) (by omega) (by decide) ?_); intro v79 w79 m; simp only [List.set_cons_succ, List.set_cons_zero] at m; have M := Lib.hid m; clear m)
                )
              refine region_anyH (fun w' => Mem w w' [.blk g3 35 F.cells]) (by kernel_rfl) ?_
              have m := M.out.drew
              clear M
              have M := Lib.hid m
              clear m
              apply takeH (i := 1) 81 rfl (by kernel_rfl) (by kernel_rfl) (by kernel_rfl) (fun _ _ _ h => h) rfl (by first | exact M.out | exact M.out.take 1)
              case' hy =>
                refine Or.inl ⟨by first | rfl | (go_simp; done), ?_⟩
                intro w hS
                clear hS
                go_simp
                try with_reducible rfl
              try simp only [Act.put, List.getElem_toArray, List.getElem_cons_succ, List.getElem_cons_zero, List.setIfInBounds_toArray, List.set_cons_succ, List.set_cons_zero]
              apply takeH (i := 2) 82 rfl (by kernel_rfl) (by kernel_rfl) (by kernel_rfl) (fun _ _ _ h => h) rfl (by first | exact M.out | exact M.out.take 1)
              case' hy =>
                refine Or.inl ⟨by first | rfl | (go_simp; done), ?_⟩
                intro w hS
                clear hS
                go_simp
                try with_reducible rfl
              try simp only [Act.put, List.getElem_toArray, List.getElem_cons_succ, List.getElem_cons_zero, List.setIfInBounds_toArray, List.set_cons_succ, List.set_cons_zero]
              apply takeH (i := 3) 83 rfl (by kernel_rfl) (by kernel_rfl) (by kernel_rfl) (fun _ _ _ h => h) rfl (by first | exact M.out | exact M.out.take 1)
              case' hy =>
                refine Or.inl ⟨by first | rfl | (go_simp; done), ?_⟩
                intro w hS
                clear hS
                go_simp
                try with_reducible rfl
              try simp only [Act.put, List.getElem_toArray, List.getElem_cons_succ, List.getElem_cons_zero, List.setIfInBounds_toArray, List.set_cons_succ, List.set_cons_zero]
              refine any2H 0 4 (by kernel_rfl) rfl rfl (fun K hK => ?_) (fun K hK => ?_)
              rotate_right 1
              case' _ =>
                go_wp2_with (first | ((with_reducible refine gate_store (x := .tmp 11) rfl ?_); go_must (refine M.out.ev_stw 4 _ _ _ rfl rfl rfl rfl _ rfl (by first | rfl | (simp only [S1.out]; rfl) | (simp only [S1.out, S2.out]; rfl) | (simp only [S3.out]; rfl) | (simp only [S1.out, S2.out, S3.out]; rfl)) (by first | exact sz39 | (rw [S1.out]; exact sz39) | (rw [S2.out]; exact sz39) | (rw [S3.out]; exact sz39)) (by first | exact ints_one _ _ | exact Fld.one _ | exact O1.out | exact Cs.one _ | exact Net.one _ | exact Prices.one _ | rfl | (simp [Value.oneCell']; done)) rfl ?_); intro wn m; simp only [List.set_cons_succ, List.set_cons_zero, List.setIfInBounds_toArray] at m; have M := Lib.hid m; clear m) | ((with_reducible refine gate_dst (N := 80) rfl ?_); go_must (refine M.out.ev_ldw 4 _ _ rfl rfl rfl Try.underlying39 rfl (by first | exact sz39 | (rw [S1.out]; exact sz39) | (rw [S2.out]; exact sz39) | (rw [S3.out]; exact sz39)) rfl ?_)) | ((with_reducible refine gate_store (x := .tmp 11) rfl ?_); go_must (refine M.out.ev_stw 4 _ _ _ rfl rfl rfl rfl _ rfl (by first | rfl | (simp only [S1.out]; rfl) | (simp only [S1.out, S2.out]; rfl) | (simp only [S3.out]; rfl) | (simp only [S1.out, S2.out, S3.out]; rfl)) (by first | exact sz39 | (rw [S1.out]; exact sz39) | (rw [S2.out]; exact sz39) | (rw [S3.out]; exact sz39)) (by first | exact ints_one _ _ | exact Fld.one _ | exact O1.out | exact Cs.one _ | exact Net.one _ | exact Prices.one _ | rfl | (simp [Value.oneCell']; done)) rfl ?_); intro wn m; simp only [List.set_cons_succ, List.set_cons_zero, List.setIfInBounds_toArray] at m; have M := Lib.hid m; clear m) | ((with_reducible refine gate_dst (N := 84) rfl ?_); go_must (refine ev_ldr _ _ rfl rfl (range_at Net.vl ((M.out.slof 6 rfl).range hnp) HJ.out) Try.underlying65 rfl (by first | exact sz65 | (rw [S1.out]; exact sz65)) rfl ?_)) | (go_at_call 61; go_must (refine (l04Under_any y OKY.out _).mono ?_); rintro e w_ ⟨rfl, N_⟩; have m := M.out.join N_; clear N_; simp only [List.cons_append, List.nil_append, List.append_nil] at m; have M := Lib.hid m; clear m) | (go_at_call 62; go_must (refine (l04Less_any _ _ hlok (pset_ok _) _).mono ?_); rintro e w_ ⟨rfl, N_⟩; have m := M.out.join N_; clear N_; simp only [List.cons_append, List.nil_append, List.append_nil] at m; have M := Lib.hid m; clear m))
                refine onward_normal (hK _ _ ⟨(by first | exact M.out | exact M.out.take 1), ?_⟩)
                clear hK K
                try simp only [Act.put, List.getElem_toArray, List.getElem_cons_succ, List.getElem_cons_zero, List.setIfInBounds_toArray, List.set_cons_succ, List.set_cons_zero]
                refine any2H 0 5 (by kernel_rfl) rfl rfl (fun K hK => ?_) (fun K hK => ?_)
                rotate_right 1
                case' _ =>
                  go_wp2_with (first | ((with_reducible refine gate_store (x := .tmp 11) rfl ?_); go_must (refine M.out.ev_stw 4 _ _ _ rfl rfl rfl rfl _ rfl (by first | rfl | (simp only [S1.out]; rfl) | (simp only [S1.out, S2.out]; rfl) | (simp only [S3.out]; rfl) | (simp only [S1.out, S2.out, S3.out]; rfl)) (by first | exact sz39 | (rw [S1.out]; exact sz39) | (rw [S2.out]; exact sz39) | (rw [S3.out]; exact sz39)) (by first | exact ints_one _ _ | exact Fld.one _ | exact O1.out | exact Cs.one _ | exact Net.one _ | exact Prices.one _ | rfl | (simp [Value.oneCell']; done)) rfl ?_); intro wn m; simp only [List.set_cons_succ, List.set_cons_zero, List.setIfInBounds_toArray] at m; have M := Lib.hid m; clear m) | ((with_reducible refine gate_dst (N := 80) rfl ?_); go_must (refine M.out.ev_ldw 4 _ _ rfl rfl rfl Try.underlying39 rfl (by first | exact sz39 | (rw [S1.out]; exact sz39) | (rw [S2.out]; exact sz39) | (rw [S3.out]; exact sz39)) rfl ?_)) | ((with_reducible refine gate_store (x := .tmp 11) rfl ?_); go_must (refine M.out.ev_stw 4 _ _ _ rfl rfl rfl rfl _ rfl (by first | rfl | (simp only [S1.out]; rfl) | (simp only [S1.out, S2.out]; rfl) | (simp only [S3.out]; rfl) | (simp only [S1.out, S2.out, S3.out]; rfl)) (by first | exact sz39 | (rw [S1.out]; exact sz39) | (rw [S2.out]; exact sz39) | (rw [S3.out]; exact sz39)) (by first | exact ints_one _ _ | exact Fld.one _ | exact O1.out | exact Cs.one _ | exact Net.one _ | exact Prices.one _ | rfl | (simp [Value.oneCell']; done)) rfl ?_); intro wn m; simp only [List.set_cons_succ, List.set_cons_zero, List.setIfInBounds_toArray] at m; have M := Lib.hid m; clear m) | ((with_reducible refine gate_dst (N := 84) rfl ?_); go_must (refine ev_ldr _ _ rfl rfl (range_at Net.vl ((M.out.slof 6 rfl).range hnp) HJ.out) Try.underlying65 rfl (by first | exact sz65 | (rw [S1.out]; exact sz65)) rfl ?_)) | (go_at_call 61; go_must (refine (l04Under_any y OKY.out _).mono ?_); rintro e w_ ⟨rfl, N_⟩; have m := M.out.join N_; clear N_; simp only [List.cons_append, List.nil_append, List.append_nil] at m; have M := Lib.hid m; clear m) | (go_at_call 62; go_must (refine (l04Less_any _ _ hlok (pset_ok _) _).mono ?_); rintro e w_ ⟨rfl, N_⟩; have m := M.out.join N_; clear N_; simp only [List.cons_append, List.nil_append, List.append_nil] at m; have M := Lib.hid m; clear m))
                  refine onward_normal (hK _ _ ⟨(by first | exact M.out | exact M.out.take 1), ?_⟩)
                  clear hK K
                  try simp only [Act.put, List.getElem_toArray, List.getElem_cons_succ, List.getElem_cons_zero, List.setIfInBounds_toArray, List.set_cons_succ, List.set_cons_zero]
                  refine any1H 0 (by kernel_rfl) rfl (fun K hK => ?_)
                  go_wp2_with (first | ((with_reducible refine gate_store (x := .tmp 11) rfl ?_); go_must (refine M.out.ev_stw 4 _ _ _ rfl rfl rfl rfl _ rfl (by first | rfl | (simp only [S1.out]; rfl) | (simp only [S1.out, S2.out]; rfl) | (simp only [S3.out]; rfl) | (simp only [S1.out, S2.out, S3.out]; rfl)) (by first | exact sz39 | (rw [S1.out]; exact sz39) | (rw [S2.out]; exact sz39) | (rw [S3.out]; exact sz39)) (by first | exact ints_one _ _ | exact Fld.one _ | exact O1.out | exact Cs.one _ | exact Net.one _ | exact Prices.one _ | rfl | (simp [Value.oneCell']; done)) rfl ?_); intro wn m; simp only [List.set_cons_succ, List.set_cons_zero, List.setIfInBounds_toArray] at m; have M := Lib.hid m; clear m) | ((with_reducible refine gate_dst (N := 80) rfl ?_); go_must (refine M.out.ev_ldw 4 _ _ rfl rfl rfl Try.underlying39 rfl (by first | exact sz39 | (rw [S1.out]; exact sz39) | (rw [S2.out]; exact sz39) | (rw [S3.out]; exact sz39)) rfl ?_)) | ((with_reducible refine gate_store (x := .tmp 11) rfl ?_); go_must (refine M.out.ev_stw 4 _ _ _ rfl rfl rfl rfl _ rfl (by first | rfl | (simp only [S1.out]; rfl) | (simp only [S1.out, S2.out]; rfl) | (simp only [S3.out]; rfl) | (simp only [S1.out, S2.out, S3.out]; rfl)) (by first | exact sz39 | (rw [S1.out]; exact sz39) | (rw [S2.out]; exact sz39) | (rw [S3.out]; exact sz39)) (by first | exact ints_one _ _ | exact Fld.one _ | exact O1.out | exact Cs.one _ | exact Net.one _ | exact Prices.one _ | rfl | (simp [Value.oneCell']; done)) rfl ?_); intro wn m; simp only [List.set_cons_succ, List.set_cons_zero, List.setIfInBounds_toArray] at m; have M := Lib.hid m; clear m) | ((with_reducible refine gate_dst (N := 84) rfl ?_); go_must (refine ev_ldr _ _ rfl rfl (range_at Net.vl ((M.out.slof 6 rfl).range hnp) HJ.out) Try.underlying65 rfl (by first | exact sz65 | (rw [S1.out]; exact sz65)) rfl ?_)) | (go_at_call 61; go_must (refine (l04Under_any y OKY.out _).mono ?_); rintro e w_ ⟨rfl, N_⟩; have m := M.out.join N_; clear N_; simp only [List.cons_append, List.nil_append, List.append_nil] at m; have M := Lib.hid m; clear m) | (go_at_call 62; go_must (refine (l04Less_any _ _ hlok (pset_ok _) _).mono ?_); rintro e w_ ⟨rfl, N_⟩; have m := M.out.join N_; clear N_; simp only [List.cons_append, List.nil_append, List.append_nil] at m; have M := Lib.hid m; clear m))
                  refine onward_normal (hK _ _ ⟨(by first | exact M.out | exact M.out.take 1), ?_⟩)
                  clear hK K
                  try simp only [Act.put, List.getElem_toArray, List.getElem_cons_succ, List.getElem_cons_zero, List.setIfInBounds_toArray, List.set_cons_succ, List.set_cons_zero]
                  refine any1H 6 (by kernel_rfl) rfl (fun K hK => ?_)
                  go_wp2_with (first | ((with_reducible refine gate_store (x := .tmp 11) rfl ?_); go_must (refine M.out.ev_stw 4 _ _ _ rfl rfl rfl rfl _ rfl (by first | rfl | (simp only [S1.out]; rfl) | (simp only [S1.out, S2.out]; rfl) | (simp only [S3.out]; rfl) | (simp only [S1.out, S2.out, S3.out]; rfl)) (by first | exact sz39 | (rw [S1.out]; exact sz39) | (rw [S2.out]; exact sz39) | (rw [S3.out]; exact sz39)) (by first | exact ints_one _ _ | exact Fld.one _ | exact O1.out | exact Cs.one _ | exact Net.one _ | exact Prices.one _ | rfl | (simp [Value.oneCell']; done)) rfl ?_); intro wn m; simp only [List.set_cons_succ, List.set_cons_zero, List.setIfInBounds_toArray] at m; have M := Lib.hid m; clear m) | ((with_reducible refine gate_dst (N := 80) rfl ?_); go_must (refine M.out.ev_ldw 4 _ _ rfl rfl rfl Try.underlying39 rfl (by first | exact sz39 | (rw [S1.out]; exact sz39) | (rw [S2.out]; exact sz39) | (rw [S3.out]; exact sz39)) rfl ?_)) | ((with_reducible refine gate_store (x := .tmp 11) rfl ?_); go_must (refine M.out.ev_stw 4 _ _ _ rfl rfl rfl rfl _ rfl (by first | rfl | (simp only [S1.out]; rfl) | (simp only [S1.out, S2.out]; rfl) | (simp only [S3.out]; rfl) | (simp only [S1.out, S2.out, S3.out]; rfl)) (by first | exact sz39 | (rw [S1.out]; exact sz39) | (rw [S2.out]; exact sz39) | (rw [S3.out]; exact sz39)) (by first | exact ints_one _ _ | exact Fld.one _ | exact O1.out | exact Cs.one _ | exact Net.one _ | exact Prices.one _ | rfl | (simp [Value.oneCell']; done)) rfl ?_); intro wn m; simp only [List.set_cons_succ, List.set_cons_zero, List.setIfInBounds_toArray] at m; have M := Lib.hid m; clear m) | ((with_reducible refine gate_dst (N := 84) rfl ?_); go_must (refine ev_ldr _ _ rfl rfl (range_at Net.vl ((M.out.slof 6 rfl).range hnp) HJ.out) Try.underlying65 rfl (by first | exact sz65 | (rw [S1.out]; exact sz65)) rfl ?_)) | (go_at_call 61; go_must (refine (l04Under_any y OKY.out _).mono ?_); rintro e w_ ⟨rfl, N_⟩; have m := M.out.join N_; clear N_; simp only [List.cons_append, List.nil_append, List.append_nil] at m; have M := Lib.hid m; clear m) | (go_at_call 62; go_must (refine (l04Less_any _ _ hlok (pset_ok _) _).mono ?_); rintro e w_ ⟨rfl, N_⟩; have m := M.out.join N_; clear N_; simp only [List.cons_append, List.nil_append, List.append_nil] at m; have M := Lib.hid m; clear m))
                  refine onward_normal (hK _ _ ⟨(by first | exact M.out | exact M.out.take 1), ?_⟩)
                  clear hK K
                  try simp only [Act.put, List.getElem_toArray, List.getElem_cons_succ, List.getElem_cons_zero, List.setIfInBounds_toArray, List.set_cons_succ, List.set_cons_zero]
                  refine any1H 7 (by kernel_rfl) rfl (fun K hK => ?_)
                  go_wp2_with (first | ((with_reducible refine gate_store (x := .tmp 11) rfl ?_); go_must (refine M.out.ev_stw 4 _ _ _ rfl rfl rfl rfl _ rfl (by first | rfl | (simp only [S1.out]; rfl) | (simp only [S1.out, S2.out]; rfl) | (simp only [S3.out]; rfl) | (simp only [S1.out, S2.out, S3.out]; rfl)) (by first | exact sz39 | (rw [S1.out]; exact sz39) | (rw [S2.out]; exact sz39) | (rw [S3.out]; exact sz39)) (by first | exact ints_one _ _ | exact Fld.one _ | exact O1.out | exact Cs.one _ | exact Net.one _ | exact Prices.one _ | rfl | (simp [Value.oneCell']; done)) rfl ?_); intro wn m; simp only [List.set_cons_succ, List.set_cons_zero, List.setIfInBounds_toArray] at m; have M := Lib.hid m; clear m) | ((with_reducible refine gate_dst (N := 80) rfl ?_); go_must (refine M.out.ev_ldw 4 _ _ rfl rfl rfl Try.underlying39 rfl (by first | exact sz39 | (rw [S1.out]; exact sz39) | (rw [S2.out]; exact sz39) | (rw [S3.out]; exact sz39)) rfl ?_)) | ((with_reducible refine gate_store (x := .tmp 11) rfl ?_); go_must (refine M.out.ev_stw 4 _ _ _ rfl rfl rfl rfl _ rfl (by first | rfl | (simp only [S1.out]; rfl) | (simp only [S1.out, S2.out]; rfl) | (simp only [S3.out]; rfl) | (simp only [S1.out, S2.out, S3.out]; rfl)) (by first | exact sz39 | (rw [S1.out]; exact sz39) | (rw [S2.out]; exact sz39) | (rw [S3.out]; exact sz39)) (by first | exact ints_one _ _ | exact Fld.one _ | exact O1.out | exact Cs.one _ | exact Net.one _ | exact Prices.one _ | rfl | (simp [Value.oneCell']; done)) rfl ?_); intro wn m; simp only [List.set_cons_succ, List.set_cons_zero, List.setIfInBounds_toArray] at m; have M := Lib.hid m; clear m) | ((with_reducible refine gate_dst (N := 84) rfl ?_); go_must (refine ev_ldr _ _ rfl rfl (range_at Net.vl ((M.out.slof 6 rfl).range hnp) HJ.out) Try.underlying65 rfl (by first | exact sz65 | (rw [S1.out]; exact sz65)) rfl ?_)) | (go_at_call 61; go_must (refine (l04Under_any y OKY.out _).mono ?_); rintro e w_ ⟨rfl, N_⟩; have m := M.out.join N_; clear N_; simp only [List.cons_append, List.nil_append, List.append_nil] at m; have M := Lib.hid m; clear m) | (go_at_call 62; go_must (refine (l04Less_any _ _ hlok (pset_ok _) _).mono ?_); rintro e w_ ⟨rfl, N_⟩; have m := M.out.join N_; clear N_; simp only [List.cons_append, List.nil_append, List.append_nil] at m; have M := Lib.hid m; clear m))
                  refine onward_normal (hK _ _ ⟨(by first | exact M.out | exact M.out.take 1), ?_⟩)
                  clear hK K
                  try simp only [Act.put, List.getElem_toArray, List.getElem_cons_succ, List.getElem_cons_zero, List.setIfInBounds_toArray, List.set_cons_succ, List.set_cons_zero]
                  refine wpAnyH_done (by kernel_rfl) ?_ _
                rotate_right 1
                case' _ =>
                  go_wp2_with (first | ((with_reducible refine gate_store (x := .tmp 11) rfl ?_); go_must (refine M.out.ev_stw 4 _ _ _ rfl rfl rfl rfl _ rfl (by first | rfl | (simp only [S1.out]; rfl) | (simp only [S1.out, S2.out]; rfl) | (simp only [S3.out]; rfl) | (simp only [S1.out, S2.out, S3.out]; rfl)) (by first | exact sz39 | (rw [S1.out]; exact sz39) | (rw [S2.out]; exact sz39) | (rw [S3.out]; exact sz39)) (by first | exact ints_one _ _ | exact Fld.one _ | exact O1.out | exact Cs.one _ | exact Net.one _ | exact Prices.one _ | rfl | (simp [Value.oneCell']; done)) rfl ?_); intro wn m; simp only [List.set_cons_succ, List.set_cons_zero, List.setIfInBounds_toArray] at m; have M := Lib.hid m; clear m) | ((with_reducible refine gate_dst (N := 80) rfl ?_); go_must (refine M.out.ev_ldw 4 _ _ rfl rfl rfl Try.underlying39 rfl (by first | exact sz39 | (rw [S1.out]; exact sz39) | (rw [S2.out]; exact sz39) | (rw [S3.out]; exact sz39)) rfl ?_)) | ((with_reducible refine gate_store (x := .tmp 11) rfl ?_); go_must (refine M.out.ev_stw 4 _ _ _ rfl rfl rfl rfl _ rfl (by first | rfl | (simp only [S1.out]; rfl) | (simp only [S1.out, S2.out]; rfl) | (simp only [S3.out]; rfl) | (simp only [S1.out, S2.out, S3.out]; rfl)) (by first | exact sz39 | (rw [S1.out]; exact sz39) | (rw [S2.out]; exact sz39) | (rw [S3.out]; exact sz39)) (by first | exact ints_one _ _ | exact Fld.one _ | exact O1.out | exact Cs.one _ | exact Net.one _ | exact Prices.one _ | rfl | (simp [Value.oneCell']; done)) rfl ?_); intro wn m; simp only [List.set_cons_succ, List.set_cons_zero, List.setIfInBounds_toArray] at m; have M := Lib.hid m; clear m) | ((with_reducible refine gate_dst (N := 84) rfl ?_); go_must (refine ev_ldr _ _ rfl rfl (range_at Net.vl ((M.out.slof 6 rfl).range hnp) HJ.out) Try.underlying65 rfl (by first | exact sz65 | (rw [S1.out]; exact sz65)) rfl ?_)) | (go_at_call 61; go_must (refine (l04Under_any y OKY.out _).mono ?_); rintro e w_ ⟨rfl, N_⟩; have m := M.out.join N_; clear N_; simp only [List.cons_append, List.nil_append, List.append_nil] at m; have M := Lib.hid m; clear m) | (go_at_call 62; go_must (refine (l04Less_any _ _ hlok (pset_ok _) _).mono ?_); rintro e w_ ⟨rfl, N_⟩; have m := M.out.join N_; clear N_; simp only [List.cons_append, List.nil_append, List.append_nil] at m; have M := Lib.hid m; clear m))
                  refine onward_normal (hK _ _ ⟨(by first | exact M.out | exact M.out.take 1), ?_⟩)
                  clear hK K
                  try simp only [Act.put, List.getElem_toArray, List.getElem_cons_succ, List.getElem_cons_zero, List.setIfInBounds_toArray, List.set_cons_succ, List.set_cons_zero]
                  refine any1H 5 (by kernel_rfl) rfl (fun K hK => ?_)
                  go_wp2_with (first | ((with_reducible refine gate_store (x := .tmp 11) rfl ?_); go_must (refine M.out.ev_stw 4 _ _ _ rfl rfl rfl rfl _ rfl (by first | rfl | (simp only [S1.out]; rfl) | (simp only [S1.out, S2.out]; rfl) | (simp only [S3.out]; rfl) | (simp only [S1.out, S2.out, S3.out]; rfl)) (by first | exact sz39 | (rw [S1.out]; exact sz39) | (rw [S2.out]; exact sz39) | (rw [S3.out]; exact sz39)) (by first | exact ints_one _ _ | exact Fld.one _ | exact O1.out | exact Cs.one _ | exact Net.one _ | exact Prices.one _ | rfl | (simp [Value.oneCell']; done)) rfl ?_); intro wn m; simp only [List.set_cons_succ, List.set_cons_zero, List.setIfInBounds_toArray] at m; have M := Lib.hid m; clear m) | ((with_reducible refine gate_dst (N := 80) rfl ?_); go_must (refine M.out.ev_ldw 4 _ _ rfl rfl rfl Try.underlying39 rfl (by first | exact sz39 | (rw [S1.out]; exact sz39) | (rw [S2.out]; exact sz39) | (rw [S3.out]; exact sz39)) rfl ?_)) | ((with_reducible refine gate_store (x := .tmp 11) rfl ?_); go_must (refine M.out.ev_stw 4 _ _ _ rfl rfl rfl rfl _ rfl (by first | rfl | (simp only [S1.out]; rfl) | (simp only [S1.out, S2.out]; rfl) | (simp only [S3.out]; rfl) | (simp only [S1.out, S2.out, S3.out]; rfl)) (by first | exact sz39 | (rw [S1.out]; exact sz39) | (rw [S2.out]; exact sz39) | (rw [S3.out]; exact sz39)) (by first | exact ints_one _ _ | exact Fld.one _ | exact O1.out | exact Cs.one _ | exact Net.one _ | exact Prices.one _ | rfl | (simp [Value.oneCell']; done)) rfl ?_); intro wn m; simp only [List.set_cons_succ, List.set_cons_zero, List.setIfInBounds_toArray] at m; have M := Lib.hid m; clear m) | ((with_reducible refine gate_dst (N := 84) rfl ?_); go_must (refine ev_ldr _ _ rfl rfl (range_at Net.vl ((M.out.slof 6 rfl).range hnp) HJ.out) Try.underlying65 rfl (by first | exact sz65 | (rw [S1.out]; exact sz65)) rfl ?_)) | (go_at_call 61; go_must (refine (l04Under_any y OKY.out _).mono ?_); rintro e w_ ⟨rfl, N_⟩; have m := M.out.join N_; clear N_; simp only [List.cons_append, List.nil_append, List.append_nil] at m; have M := Lib.hid m; clear m) | (go_at_call 62; go_must (refine (l04Less_any _ _ hlok (pset_ok _) _).mono ?_); rintro e w_ ⟨rfl, N_⟩; have m := M.out.join N_; clear N_; simp only [List.cons_append, List.nil_append, List.append_nil] at m; have M := Lib.hid m; clear m))
                  refine onward_normal (hK _ _ ⟨(by first | exact M.out | exact M.out.take 1), ?_⟩)
                  clear hK K
                  try simp only [Act.put, List.getElem_toArray, List.getElem_cons_succ, List.getElem_cons_zero, List.setIfInBounds_toArray, List.set_cons_succ, List.set_cons_zero]
                  refine any1H 6 (by kernel_rfl) rfl (fun K hK => ?_)
                  go_wp2_with (first | ((with_reducible refine gate_store (x := .tmp 11) rfl ?_); go_must (refine M.out.ev_stw 4 _ _ _ rfl rfl rfl rfl _ rfl (by first | rfl | (simp only [S1.out]; rfl) | (simp only [S1.out, S2.out]; rfl) | (simp only [S3.out]; rfl) | (simp only [S1.out, S2.out, S3.out]; rfl)) (by first | exact sz39 | (rw [S1.out]; exact sz39) | (rw [S2.out]; exact sz39) | (rw [S3.out]; exact sz39)) (by first | exact ints_one _ _ | exact Fld.one _ | exact O1.out | exact Cs.one _ | exact Net.one _ | exact Prices.one _ | rfl | (simp [Value.oneCell']; done)) rfl ?_); intro wn m; simp only [List.set_cons_succ, List.set_cons_zero, List.setIfInBounds_toArray] at m; have M := Lib.hid m; clear m) | ((with_reducible refine gate_dst (N := 80) rfl ?_); go_must (refine M.out.ev_ldw 4 _ _ rfl rfl rfl Try.underlying39 rfl (by first | exact sz39 | (rw [S1.out]; exact sz39) | (rw [S2.out]; exact sz39) | (rw [S3.out]; exact sz39)) rfl ?_)) | ((with_reducible refine gate_store (x := .tmp 11) rfl ?_); go_must (refine M.out.ev_stw 4 _ _ _ rfl rfl rfl rfl _ rfl (by first | rfl | (simp only [S1.out]; rfl) | (simp only [S1.out, S2.out]; rfl) | (simp only [S3.out]; rfl) | (simp only [S1.out, S2.out, S3.out]; rfl)) (by first | exact sz39 | (rw [S1.out]; exact sz39) | (rw [S2.out]; exact sz39) | (rw [S3.out]; exact sz39)) (by first | exact ints_one _ _ | exact Fld.one _ | exact O1.out | exact Cs.one _ | exact Net.one _ | exact Prices.one _ | rfl | (simp [Value.oneCell']; done)) rfl ?_); intro wn m; simp only [List.set_cons_succ, List.set_cons_zero, List.setIfInBounds_toArray] at m; have M := Lib.hid m; clear m) | ((with_reducible refine gate_dst (N := 84) rfl ?_); go_must (refine ev_ldr _ _ rfl rfl (range_at Net.vl ((M.out.slof 6 rfl).range hnp) HJ.out) Try.underlying65 rfl (by first | exact sz65 | (rw [S1.out]; exact sz65)) rfl ?_)) | (go_at_call 61; go_must (refine (l04Under_any y OKY.out _).mono ?_); rintro e w_ ⟨rfl, N_⟩; have m := M.out.join N_; clear N_; simp only [List.cons_append, List.nil_append, List.append_nil] at m; have M := Lib.hid m; clear m) | (go_at_call 62; go_must (refine (l04Less_any _ _ hlok (pset_ok _) _).mono ?_); rintro e w_ ⟨rfl, N_⟩; have m := M.out.join N_; clear N_; simp only [List.cons_append, List.nil_append, List.append_nil] at m; have M := Lib.hid m; clear m))
                  refine onward_normal (hK _ _ ⟨(by first | exact M.out | exact M.out.take 1), ?_⟩)
                  clear hK K
                  try simp only [Act.put, List.getElem_toArray, List.getElem_cons_succ, List.getElem_cons_zero, List.setIfInBounds_toArray, List.set_cons_succ, List.set_cons_zero]
                  refine any1H 7 (by kernel_rfl) rfl (fun K hK => ?_)
                  go_wp2_with (first | ((with_reducible refine gate_store (x := .tmp 11) rfl ?_); go_must (refine M.out.ev_stw 4 _ _ _ rfl rfl rfl rfl _ rfl (by first | rfl | (simp only [S1.out]; rfl) | (simp only [S1.out, S2.out]; rfl) | (simp only [S3.out]; rfl) | (simp only [S1.out, S2.out, S3.out]; rfl)) (by first | exact sz39 | (rw [S1.out]; exact sz39) | (rw [S2.out]; exact sz39) | (rw [S3.out]; exact sz39)) (by first | exact ints_one _ _ | exact Fld.one _ | exact O1.out | exact Cs.one _ | exact Net.one _ | exact Prices.one _ | rfl | (simp [Value.oneCell']; done)) rfl ?_); intro wn m; simp only [List.set_cons_succ, List.set_cons_zero, List.setIfInBounds_toArray] at m; have M := Lib.hid m; clear m) | ((with_reducible refine gate_dst (N := 80) rfl ?_); go_must (refine M.out.ev_ldw 4 _ _ rfl rfl rfl Try.underlying39 rfl (by first | exact sz39 | (rw [S1.out]; exact sz39) | (rw [S2.out]; exact sz39) | (rw [S3.out]; exact sz39)) rfl ?_)) | ((with_reducible refine gate_store (x := .tmp 11) rfl ?_); go_must (refine M.out.ev_stw 4 _ _ _ rfl rfl rfl rfl _ rfl (by first | rfl | (simp only [S1.out]; rfl) | (simp only [S1.out, S2.out]; rfl) | (simp only [S3.out]; rfl) | (simp only [S1.out, S2.out, S3.out]; rfl)) (by first | exact sz39 | (rw [S1.out]; exact sz39) | (rw [S2.out]; exact sz39) | (rw [S3.out]; exact sz39)) (by first | exact ints_one _ _ | exact Fld.one _ | exact O1.out | exact Cs.one _ | exact Net.one _ | exact Prices.one _ | rfl | (simp [Value.oneCell']; done)) rfl ?_); intro wn m; simp only [List.set_cons_succ, List.set_cons_zero, List.setIfInBounds_toArray] at m; have M := Lib.hid m; clear m) | ((with_reducible refine gate_dst (N := 84) rfl ?_); go_must (refine ev_ldr _ _ rfl rfl (range_at Net.vl ((M.out.slof 6 rfl).range hnp) HJ.out) Try.underlying65 rfl (by first | exact sz65 | (rw [S1.out]; exact sz65)) rfl ?_)) | (go_at_call 61; go_must (refine (l04Under_any y OKY.out _).mono ?_); rintro e w_ ⟨rfl, N_⟩; have m := M.out.join N_; clear N_; simp only [List.cons_append, List.nil_append, List.append_nil] at m; have M := Lib.hid m; clear m) | (go_at_call 62; go_must (refine (l04Less_any _ _ hlok (pset_ok _) _).mono ?_); rintro e w_ ⟨rfl, N_⟩; have m := M.out.join N_; clear N_; simp only [List.cons_append, List.nil_append, List.append_nil] at m; have M := Lib.hid m; clear m))
                  refine onward_normal (hK _ _ ⟨(by first | exact M.out | exact M.out.take 1), ?_⟩)
                  clear hK K
                  try simp only [Act.put, List.getElem_toArray, List.getElem_cons_succ, List.getElem_cons_zero, List.setIfInBounds_toArray, List.set_cons_succ, List.set_cons_zero]
                  refine wpAnyH_done (by kernel_rfl) ?_ _
              rotate_right 1
              case' _ =>
                go_wp2_with (first | ((with_reducible refine gate_store (x := .tmp 11) rfl ?_); go_must (refine M.out.ev_stw 4 _ _ _ rfl rfl rfl rfl _ rfl (by first | rfl | (simp only [S1.out]; rfl) | (simp only [S1.out, S2.out]; rfl) | (simp only [S3.out]; rfl) | (simp only [S1.out, S2.out, S3.out]; rfl)) (by first | exact sz39 | (rw [S1.out]; exact sz39) | (rw [S2.out]; exact sz39) | (rw [S3.out]; exact sz39)) (by first | exact ints_one _ _ | exact Fld.one _ | exact O1.out | exact Cs.one _ | exact Net.one _ | exact Prices.one _ | rfl | (simp [Value.oneCell']; done)) rfl ?_); intro wn m; simp only [List.set_cons_succ, List.set_cons_zero, List.setIfInBounds_toArray] at m; have M := Lib.hid m; clear m) | ((with_reducible refine gate_dst (N := 80) rfl ?_); go_must (refine M.out.ev_ldw 4 _ _ rfl rfl rfl Try.underlying39 rfl (by first | exact sz39 | (rw [S1.out]; exact sz39) | (rw [S2.out]; exact sz39) | (rw [S3.out]; exact sz39)) rfl ?_)) | ((with_reducible refine gate_store (x := .tmp 11) rfl ?_); go_must (refine M.out.ev_stw 4 _ _ _ rfl rfl rfl rfl _ rfl (by first | rfl | (simp only [S1.out]; rfl) | (simp only [S1.out, S2.out]; rfl) | (simp only [S3.out]; rfl) | (simp only [S1.out, S2.out, S3.out]; rfl)) (by first | exact sz39 | (rw [S1.out]; exact sz39) | (rw [S2.out]; exact sz39) | (rw [S3.out]; exact sz39)) (by first | exact ints_one _ _ | exact Fld.one _ | exact O1.out | exact Cs.one _ | exact Net.one _ | exact Prices.one _ | rfl | (simp [Value.oneCell']; done)) rfl ?_); intro wn m; simp only [List.set_cons_succ, List.set_cons_zero, List.setIfInBounds_toArray] at m; have M := Lib.hid m; clear m) | ((with_reducible refine gate_dst (N := 84) rfl ?_); go_must (refine ev_ldr _ _ rfl rfl (range_at Net.vl ((M.out.slof 6 rfl).range hnp) HJ.out) Try.underlying65 rfl (by first | exact sz65 | (rw [S1.out]; exact sz65)) rfl ?_)) | (go_at_call 61; go_must (refine (l04Under_any y OKY.out _).mono ?_); rintro e w_ ⟨rfl, N_⟩; have m := M.out.join N_; clear N_; simp only [List.cons_append, List.nil_append, List.append_nil] at m; have M := Lib.hid m; clear m) | (go_at_call 62; go_must (refine (l04Less_any _ _ hlok (pset_ok _) _).mono ?_); rintro e w_ ⟨rfl, N_⟩; have m := M.out.join N_; clear N_; simp only [List.cons_append, List.nil_append, List.append_nil] at m; have M := Lib.hid m; clear m))
                refine onward_normal (hK _ _ ⟨(by first | exact M.out | exact M.out.take 1), ?_⟩)
                clear hK K
                try simp only [Act.put, List.getElem_toArray, List.getElem_cons_succ, List.getElem_cons_zero, List.setIfInBounds_toArray, List.set_cons_succ, List.set_cons_zero]
                refine any1H 4 (by kernel_rfl) rfl (fun K hK => ?_)
                go_wp2_with (first | ((with_reducible refine gate_store (x := .tmp 11) rfl ?_); go_must (refine M.out.ev_stw 4 _ _ _ rfl rfl rfl rfl _ rfl (by first | rfl | (simp only [S1.out]; rfl) | (simp only [S1.out, S2.out]; rfl) | (simp only [S3.out]; rfl) | (simp only [S1.out, S2.out, S3.out]; rfl)) (by first | exact sz39 | (rw [S1.out]; exact sz39) | (rw [S2.out]; exact sz39) | (rw [S3.out]; exact sz39)) (by first | exact ints_one _ _ | exact Fld.one _ | exact O1.out | exact Cs.one _ | exact Net.one _ | exact Prices.one _ | rfl | (simp [Value.oneCell']; done)) rfl ?_); intro wn m; simp only [List.set_cons_succ, List.set_cons_zero, List.setIfInBounds_toArray] at m; have M := Lib.hid m; clear m) | ((with_reducible refine gate_dst (N := 80) rfl ?_); go_must (refine M.out.ev_ldw 4 _ _ rfl rfl rfl Try.underlying39 rfl (by first | exact sz39 | (rw [S1.out]; exact sz39) | (rw [S2.out]; exact sz39) | (rw [S3.out]; exact sz39)) rfl ?_)) | ((with_reducible refine gate_store (x := .tmp 11) rfl ?_); go_must (refine M.out.ev_stw 4 _ _ _ rfl rfl rfl rfl _ rfl (by first | rfl | (simp only [S1.out]; rfl) | (simp only [S1.out, S2.out]; rfl) | (simp only [S3.out]; rfl) | (simp only [S1.out, S2.out, S3.out]; rfl)) (by first | exact sz39 | (rw [S1.out]; exact sz39) | (rw [S2.out]; exact sz39) | (rw [S3.out]; exact sz39)) (by first | exact ints_one _ _ | exact Fld.one _ | exact O1.out | exact Cs.one _ | exact Net.one _ | exact Prices.one _ | rfl | (simp [Value.oneCell']; done)) rfl ?_); intro wn m; simp only [List.set_cons_succ, List.set_cons_zero, List.setIfInBounds_toArray] at m; have M := Lib.hid m; clear m) | ((with_reducible refine gate_dst (N := 84) rfl ?_); go_must (refine ev_ldr _ _ rfl rfl (range_at Net.vl ((M.out.slof 6 rfl).range hnp) HJ.out) Try.underlying65 rfl (by first | exact sz65 | (rw [S1.out]; exact sz65)) rfl ?_)) | (go_at_call 61; go_must (refine (l04Under_any y OKY.out _).mono ?_); rintro e w_ ⟨rfl, N_⟩; have m := M.out.join N_; clear N_; simp only [List.cons_append, List.nil_append, List.append_nil] at m; have M := Lib.hid m; clear m) | (go_at_call 62; go_must (refine (l04Less_any _ _ hlok (pset_ok _) _).mono ?_); rintro e w_ ⟨rfl, N_⟩; have m := M.out.join N_; clear N_; simp only [List.cons_append, List.nil_append, List.append_nil] at m; have M := Lib.hid m; clear m))
                refine onward_normal (hK _ _ ⟨(by first | exact M.out | exact M.out.take 1), ?_⟩)
                clear hK K
                try simp only [Act.put, List.getElem_toArray, List.getElem_cons_succ, List.getElem_cons_zero, List.setIfInBounds_toArray, List.set_cons_succ, List.set_cons_zero]
                refine any1H 5 (by kernel_rfl) rfl (fun K hK => ?_)
                go_wp2_with (first | ((with_reducible refine gate_store (x := .tmp 11) rfl ?_); go_must (refine M.out.ev_stw 4 _ _ _ rfl rfl rfl rfl _ rfl (by first | rfl | (simp only [S1.out]; rfl) | (simp only [S1.out, S2.out]; rfl) | (simp only [S3.out]; rfl) | (simp only [S1.out, S2.out, S3.out]; rfl)) (by first | exact sz39 | (rw [S1.out]; exact sz39) | (rw [S2.out]; exact sz39) | (rw [S3.out]; exact sz39)) (by first | exact ints_one _ _ | exact Fld.one _ | exact O1.out | exact Cs.one _ | exact Net.one _ | exact Prices.one _ | rfl | (simp [Value.oneCell']; done)) rfl ?_); intro wn m; simp only [List.set_cons_succ, List.set_cons_zero, List.setIfInBounds_toArray] at m; have M := Lib.hid m; clear m) | ((with_reducible refine gate_dst (N := 80) rfl ?_); go_must (refine M.out.ev_ldw 4 _ _ rfl rfl rfl Try.underlying39 rfl (by first | exact sz39 | (rw [S1.out]; exact sz39) | (rw [S2.out]; exact sz39) | (rw [S3.out]; exact sz39)) rfl ?_)) | ((with_reducible refine gate_store (x := .tmp 11) rfl ?_); go_must (refine M.out.ev_stw 4 _ _ _ rfl rfl rfl rfl _ rfl (by first | rfl | (simp only [S1.out]; rfl) | (simp only [S1.out, S2.out]; rfl) | (simp only [S3.out]; rfl) | (simp only [S1.out, S2.out, S3.out]; rfl)) (by first | exact sz39 | (rw [S1.out]; exact sz39) | (rw [S2.out]; exact sz39) | (rw [S3.out]; exact sz39)) (by first | exact ints_one _ _ | exact Fld.one _ | exact O1.out | exact Cs.one _ | exact Net.one _ | exact Prices.one _ | rfl | (simp [Value.oneCell']; done)) rfl ?_); intro wn m; simp only [List.set_cons_succ, List.set_cons_zero, List.setIfInBounds_toArray] at m; have M := Lib.hid m; clear m) | ((with_reducible refine gate_dst (N := 84) rfl ?_); go_must (refine ev_ldr _ _ rfl rfl (range_at Net.vl ((M.out.slof 6 rfl).range hnp) HJ.out) Try.underlying65 rfl (by first | exact sz65 | (rw [S1.out]; exact sz65)) rfl ?_)) | (go_at_call 61; go_must (refine (l04Under_any y OKY.out _).mono ?_); rintro e w_ ⟨rfl, N_⟩; have m := M.out.join N_; clear N_; simp only [List.cons_append, List.nil_append, List.append_nil] at m; have M := Lib.hid m; clear m) | (go_at_call 62; go_must (refine (l04Less_any _ _ hlok (pset_ok _) _).mono ?_); rintro e w_ ⟨rfl, N_⟩; have m := M.out.join N_; clear N_; simp only [List.cons_append, List.nil_append, List.append_nil] at m; have M := Lib.hid m; clear m))
                refine onward_normal (hK _ _ ⟨(by first | exact M.out | exact M.out.take 1), ?_⟩)
                clear hK K
                try simp only [Act.put, List.getElem_toArray, List.getElem_cons_succ, List.getElem_cons_zero, List.setIfInBounds_toArray, List.set_cons_succ, List.set_cons_zero]
                refine any1H 6 (by kernel_rfl) rfl (fun K hK => ?_)
                go_wp2_with (first | ((with_reducible refine gate_store (x := .tmp 11) rfl ?_); go_must (refine M.out.ev_stw 4 _ _ _ rfl rfl rfl rfl _ rfl (by first | rfl | (simp only [S1.out]; rfl) | (simp only [S1.out, S2.out]; rfl) | (simp only [S3.out]; rfl) | (simp only [S1.out, S2.out, S3.out]; rfl)) (by first | exact sz39 | (rw [S1.out]; exact sz39) | (rw [S2.out]; exact sz39) | (rw [S3.out]; exact sz39)) (by first | exact ints_one _ _ | exact Fld.one _ | exact O1.out | exact Cs.one _ | exact Net.one _ | exact Prices.one _ | rfl | (simp [Value.oneCell']; done)) rfl ?_); intro wn m; simp only [List.set_cons_succ, List.set_cons_zero, List.setIfInBounds_toArray] at m; have M := Lib.hid m; clear m) | ((with_reducible refine gate_dst (N := 80) rfl ?_); go_must (refine M.out.ev_ldw 4 _ _ rfl rfl rfl Try.underlying39 rfl (by first | exact sz39 | (rw [S1.out]; exact sz39) | (rw [S2.out]; exact sz39) | (rw [S3.out]; exact sz39)) rfl ?_)) | ((with_reducible refine gate_store (x := .tmp 11) rfl ?_); go_must (refine M.out.ev_stw 4 _ _ _ rfl rfl rfl rfl _ rfl (by first | rfl | (simp only [S1.out]; rfl) | (simp only [S1.out, S2.out]; rfl) | (simp only [S3.out]; rfl) | (simp only [S1.out, S2.out, S3.out]; rfl)) (by first | exact sz39 | (rw [S1.out]; exact sz39) | (rw [S2.out]; exact sz39) | (rw [S3.out]; exact sz39)) (by first | exact ints_one _ _ | exact Fld.one _ | exact O1.out | exact Cs.one _ | exact Net.one _ | exact Prices.one _ | rfl | (simp [Value.oneCell']; done)) rfl ?_); intro wn m; simp only [List.set_cons_succ, List.set_cons_zero, List.setIfInBounds_toArray] at m; have M := Lib.hid m; clear m) | ((with_reducible refine gate_dst (N := 84) rfl ?_); go_must (refine ev_ldr _ _ rfl rfl (range_at Net.vl ((M.out.slof 6 rfl).range hnp) HJ.out) Try.underlying65 rfl (by first | exact sz65 | (rw [S1.out]; exact sz65)) rfl ?_)) | (go_at_call 61; go_must (refine (l04Under_any y OKY.out _).mono ?_); rintro e w_ ⟨rfl, N_⟩; have m := M.out.join N_; clear N_; simp only [List.cons_append, List.nil_append, List.append_nil] at m; have M := Lib.hid m; clear m) | (go_at_call 62; go_must (refine (l04Less_any _ _ hlok (pset_ok _) _).mono ?_); rintro e w_ ⟨rfl, N_⟩; have m := M.out.join N_; clear N_; simp only [List.cons_append, List.nil_append, List.append_nil] at m; have M := Lib.hid m; clear m))
                refine onward_normal (hK _ _ ⟨(by first | exact M.out | exact M.out.take 1), ?_⟩)
                clear hK K
                try simp only [Act.put, List.getElem_toArray, List.getElem_cons_succ, List.getElem_cons_zero, List.setIfInBounds_toArray, List.set_cons_succ, List.set_cons_zero]
                refine any1H 7 (by kernel_rfl) rfl (fun K hK => ?_)
                go_wp2_with (first | ((with_reducible refine gate_store (x := .tmp 11) rfl ?_); go_must (refine M.out.ev_stw 4 _ _ _ rfl rfl rfl rfl _ rfl (by first | rfl | (simp only [S1.out]; rfl) | (simp only [S1.out, S2.out]; rfl) | (simp only [S3.out]; rfl) | (simp only [S1.out, S2.out, S3.out]; rfl)) (by first | exact sz39 | (rw [S1.out]; exact sz39) | (rw [S2.out]; exact sz39) | (rw [S3.out]; exact sz39)) (by first | exact ints_one _ _ | exact Fld.one _ | exact O1.out | exact Cs.one _ | exact Net.one _ | exact Prices.one _ | rfl | (simp [Value.oneCell']; done)) rfl ?_); intro wn m; simp only [List.set_cons_succ, List.set_cons_zero, List.setIfInBounds_toArray] at m; have M := Lib.hid m; clear m) | ((with_reducible refine gate_dst (N := 80) rfl ?_); go_must (refine M.out.ev_ldw 4 _ _ rfl rfl rfl Try.underlying39 rfl (by first | exact sz39 | (rw [S1.out]; exact sz39) | (rw [S2.out]; exact sz39) | (rw [S3.out]; exact sz39)) rfl ?_)) | ((with_reducible refine gate_store (x := .tmp 11) rfl ?_); go_must (refine M.out.ev_stw 4 _ _ _ rfl rfl rfl rfl _ rfl (by first | rfl | (simp only [S1.out]; rfl) | (simp only [S1.out, S2.out]; rfl) | (simp only [S3.out]; rfl) | (simp only [S1.out, S2.out, S3.out]; rfl)) (by first | exact sz39 | (rw [S1.out]; exact sz39) | (rw [S2.out]; exact sz39) | (rw [S3.out]; exact sz39)) (by first | exact ints_one _ _ | exact Fld.one _ | exact O1.out | exact Cs.one _ | exact Net.one _ | exact Prices.one _ | rfl | (simp [Value.oneCell']; done)) rfl ?_); intro wn m; simp only [List.set_cons_succ, List.set_cons_zero, List.setIfInBounds_toArray] at m; have M := Lib.hid m; clear m) | ((with_reducible refine gate_dst (N := 84) rfl ?_); go_must (refine ev_ldr _ _ rfl rfl (range_at Net.vl ((M.out.slof 6 rfl).range hnp) HJ.out) Try.underlying65 rfl (by first | exact sz65 | (rw [S1.out]; exact sz65)) rfl ?_)) | (go_at_call 61; go_must (refine (l04Under_any y OKY.out _).mono ?_); rintro e w_ ⟨rfl, N_⟩; have m := M.out.join N_; clear N_; simp only [List.cons_append, List.nil_append, List.append_nil] at m; have M := Lib.hid m; clear m) | (go_at_call 62; go_must (refine (l04Less_any _ _ hlok (pset_ok _) _).mono ?_); rintro e w_ ⟨rfl, N_⟩; have m := M.out.join N_; clear N_; simp only [List.cons_append, List.nil_append, List.append_nil] at m; have M := Lib.hid m; clear m))
                refine onward_normal (hK _ _ ⟨(by first | exact M.out | exact M.out.take 1), ?_⟩)
                clear hK K
                try simp only [Act.put, List.getElem_toArray, List.getElem_cons_succ, List.getElem_cons_zero, List.setIfInBounds_toArray, List.set_cons_succ, List.set_cons_zero]
                refine wpAnyH_done (by kernel_rfl) ?_ _
              all_goals
                go_wp2
                have mm := M.out.take 5
                obtain ⟨B2, cB2, rfl, hcB2, _⟩ := mm.row_slice 3 rfl
                refine ⟨⟨left.without (netSet y), out ++ [y], HGO'.out, by simp [lenOf], ?_⟩, by simp [lenOf]; try omega⟩
                rw [flat_snoc, List.length_append, ← LC.out]
                exact mm
    · have HW := Lib.hid hw
      have HR := Lib.hid (show gRes F p c = [] by rw [gRes, if_pos hk, hw]; rfl)
      have HC := Lib.hid (show gCode F p c = 4 by rw [gCode, if_pos hk, hw]; rfl)
      clear hk h1 hw hin
      go_enter Try.func21, Try.ntmps21
      go_wp2_with (first
        | ((with_reducible refine gate_dst (N := 3) rfl ?_); go_must (refine M.out.ev_new rfl (by first | (go_simp; done) | (go_simp; rfl)) ?_); intro g3 w3 m; simp only [List.cons_append, List.nil_append] at m; have M := Lib.hid m; clear m)
        | ((with_reducible refine gate_dst (N := 4) rfl ?_); go_must (refine M.out.ev_new rfl (by first | (go_simp; done) | (go_simp; rfl)) ?_); intro g4 w4 m; simp only [List.cons_append, List.nil_append] at m; have M := Lib.hid m; clear m)
        | ((with_reducible refine gate_dst (N := 5) rfl ?_); go_must (refine M.out.ev_new rfl (by first | (go_simp; done) | (go_simp; rfl)) ?_); intro g5 w5 m; simp only [List.cons_append, List.nil_append] at m; have M := Lib.hid m; clear m)
        | ((with_reducible refine gate_dst (N := 19) rfl ?_); go_must (refine M.out.ev_ldw 1 _ _ rfl rfl rfl Try.underlying37 rfl (by first | exact sz37 | (rw [S1.out]; exact sz37) | (rw [S2.out]; exact sz37) | (rw [S3.out]; exact sz37)) rfl ?_))
        | ((with_reducible refine gate_dst (N := 31) rfl ?_); go_must (refine M.out.ev_ldw 2 _ _ rfl rfl rfl Try.underlying39 rfl (by first | exact sz39 | (rw [S1.out]; exact sz39) | (rw [S2.out]; exact sz39) | (rw [S3.out]; exact sz39)) rfl ?_))
        | ((with_reducible refine gate_dst (N := 11) rfl ?_); go_must (refine M.out.ev_new rfl (by first | (go_simp; done) | (go_simp; rfl)) ?_); intro g11 w11 m; simp only [List.cons_append, List.nil_append] at m; have M := Lib.hid m; clear m)
        | ((with_reducible refine gate_store (x := .tmp 11) rfl ?_); go_must (refine M.out.ev_stw 4 _ _ _ rfl rfl rfl rfl _ rfl (by first | rfl | (simp only [S1.out]; rfl) | (simp only [S1.out, S2.out]; rfl) | (simp only [S3.out]; rfl) | (simp only [S1.out, S2.out, S3.out]; rfl)) (by first | exact sz39 | (rw [S1.out]; exact sz39) | (rw [S2.out]; exact sz39) | (rw [S3.out]; exact sz39)) (by first | exact ints_one _ _ | exact Fld.one _ | exact O1.out | exact Cs.one _ | exact Net.one _ | exact Prices.one _ | rfl | (simp [Value.oneCell']; done)) rfl ?_); intro wn m; simp only [List.set_cons_succ, List.set_cons_zero, List.setIfInBounds_toArray] at m; have M := Lib.hid m; clear m)
        | ((with_reducible refine gate_dst (N := 33) rfl ?_); go_must (refine M.out.ev_ldw 4 _ _ rfl rfl rfl Try.underlying39 rfl (by first | exact sz39 | (rw [S1.out]; exact sz39) | (rw [S2.out]; exact sz39) | (rw [S3.out]; exact sz39)) rfl ?_))
        | ((with_reducible refine gate_dst (N := 46) rfl ?_); go_must (refine M.out.ev_ldw 1 _ _ rfl rfl rfl Try.underlying37 rfl (by first | exact sz37 | (rw [S1.out]; exact sz37) | (rw [S2.out]; exact sz37) | (rw [S3.out]; exact sz37)) rfl ?_))
        | ((with_reducible refine gate_dst (N := 57) rfl ?_); go_must (refine M.out.ev_ldw 4 _ _ rfl rfl rfl Try.underlying39 rfl (by first | exact sz39 | (rw [S1.out]; exact sz39) | (rw [S2.out]; exact sz39) | (rw [S3.out]; exact sz39)) rfl ?_))
        | ((with_reducible refine gate_dst (N := 80) rfl ?_); go_must (refine M.out.ev_ldw 4 _ _ rfl rfl rfl Try.underlying39 rfl (by first | exact sz39 | (rw [S1.out]; exact sz39) | (rw [S2.out]; exact sz39) | (rw [S3.out]; exact sz39)) rfl ?_))
        | ((with_reducible refine gate_store (x := .tmp 11) rfl ?_); go_must (refine M.out.ev_stw 4 _ _ _ rfl rfl rfl rfl _ rfl (by first | rfl | (simp only [S1.out]; rfl) | (simp only [S1.out, S2.out]; rfl) | (simp only [S3.out]; rfl) | (simp only [S1.out, S2.out, S3.out]; rfl)) (by first | exact sz39 | (rw [S1.out]; exact sz39) | (rw [S2.out]; exact sz39) | (rw [S3.out]; exact sz39)) (by first | exact ints_one _ _ | exact Fld.one _ | exact O1.out | exact Cs.one _ | exact Net.one _ | exact Prices.one _ | rfl | (simp [Value.oneCell']; done)) rfl ?_); intro wn m; simp only [List.set_cons_succ, List.set_cons_zero, List.setIfInBounds_toArray] at m; have M := Lib.hid m; clear m)
        | ((with_reducible refine gate_dst (N := 88) rfl ?_); go_must (refine M.out.ev_ldw 1 _ _ rfl rfl rfl Try.underlying37 rfl (by first | exact sz37 | (rw [S1.out]; exact sz37) | (rw [S2.out]; exact sz37) | (rw [S3.out]; exact sz37)) rfl ?_))
        | (go_at_call 31; go_must (refine (l04Priced_any g3 g5 F HF.out p hp c hc _ (M.out.blk 0 rfl) (M.out.blk 2 rfl)).mono ?_); rintro e w_ ⟨rfl, N_⟩; have m := M.out.join N_; clear N_; simp only [List.cons_append, List.nil_append, List.append_nil] at m; have M := Lib.hid m; clear m; rw [HK.out])
        | (go_at_call 33; go_must (refine (l04Wood_any g3 g5 F HF.out c hc _ (M.out.blk 0 rfl) (M.out.blk 2 rfl)).mono ?_); rintro e w_ ⟨rfl, N_⟩; have m := M.out.join N_; clear N_; simp only [List.cons_append, List.nil_append, List.append_nil] at m; have M := Lib.hid m; clear m; rw [HW.out])
        | ((with_reducible refine gate_dst (N := 28) rfl ?_); go_must (refine M.out.ev_bs0 elem_Net rfl rfl ?_); intro gv28 wv28 m; simp only [List.cons_append, List.nil_append] at m; have M := Lib.hid m; clear m)
        )
      go_ret3
      rw [HR.out, HC.out]
      exact ⟨_, _, rfl, by simp, M.out.only [3] (K := [_]) rfl (by decide)⟩
  · obtain ⟨d, hd⟩ : ∃ d, d = prCode F p [] c := ⟨_, rfl⟩
    have HR := Lib.hid (show gRes F p c = [] by rw [gRes, if_neg hk])
    have HC := Lib.hid (show gCode F p c = d by rw [gCode, if_neg hk, hd])
    have HD := Lib.hid hd
    rw [← hd] at hk
    clear hd
    go_enter Try.func21, Try.ntmps21
    go_wp2_with (first
      | ((with_reducible refine gate_dst (N := 3) rfl ?_); go_must (refine M.out.ev_new rfl (by first | (go_simp; done) | (go_simp; rfl)) ?_); intro g3 w3 m; simp only [List.cons_append, List.nil_append] at m; have M := Lib.hid m; clear m)
      | ((with_reducible refine gate_dst (N := 4) rfl ?_); go_must (refine M.out.ev_new rfl (by first | (go_simp; done) | (go_simp; rfl)) ?_); intro g4 w4 m; simp only [List.cons_append, List.nil_append] at m; have M := Lib.hid m; clear m)
      | ((with_reducible refine gate_dst (N := 5) rfl ?_); go_must (refine M.out.ev_new rfl (by first | (go_simp; done) | (go_simp; rfl)) ?_); intro g5 w5 m; simp only [List.cons_append, List.nil_append] at m; have M := Lib.hid m; clear m)
      | ((with_reducible refine gate_dst (N := 19) rfl ?_); go_must (refine M.out.ev_ldw 1 _ _ rfl rfl rfl Try.underlying37 rfl (by first | exact sz37 | (rw [S1.out]; exact sz37) | (rw [S2.out]; exact sz37) | (rw [S3.out]; exact sz37)) rfl ?_))
      | ((with_reducible refine gate_dst (N := 31) rfl ?_); go_must (refine M.out.ev_ldw 2 _ _ rfl rfl rfl Try.underlying39 rfl (by first | exact sz39 | (rw [S1.out]; exact sz39) | (rw [S2.out]; exact sz39) | (rw [S3.out]; exact sz39)) rfl ?_))
      | ((with_reducible refine gate_dst (N := 11) rfl ?_); go_must (refine M.out.ev_new rfl (by first | (go_simp; done) | (go_simp; rfl)) ?_); intro g11 w11 m; simp only [List.cons_append, List.nil_append] at m; have M := Lib.hid m; clear m)
      | ((with_reducible refine gate_store (x := .tmp 11) rfl ?_); go_must (refine M.out.ev_stw 4 _ _ _ rfl rfl rfl rfl _ rfl (by first | rfl | (simp only [S1.out]; rfl) | (simp only [S1.out, S2.out]; rfl) | (simp only [S3.out]; rfl) | (simp only [S1.out, S2.out, S3.out]; rfl)) (by first | exact sz39 | (rw [S1.out]; exact sz39) | (rw [S2.out]; exact sz39) | (rw [S3.out]; exact sz39)) (by first | exact ints_one _ _ | exact Fld.one _ | exact O1.out | exact Cs.one _ | exact Net.one _ | exact Prices.one _ | rfl | (simp [Value.oneCell']; done)) rfl ?_); intro wn m; simp only [List.set_cons_succ, List.set_cons_zero, List.setIfInBounds_toArray] at m; have M := Lib.hid m; clear m)
      | ((with_reducible refine gate_dst (N := 33) rfl ?_); go_must (refine M.out.ev_ldw 4 _ _ rfl rfl rfl Try.underlying39 rfl (by first | exact sz39 | (rw [S1.out]; exact sz39) | (rw [S2.out]; exact sz39) | (rw [S3.out]; exact sz39)) rfl ?_))
      | ((with_reducible refine gate_dst (N := 46) rfl ?_); go_must (refine M.out.ev_ldw 1 _ _ rfl rfl rfl Try.underlying37 rfl (by first | exact sz37 | (rw [S1.out]; exact sz37) | (rw [S2.out]; exact sz37) | (rw [S3.out]; exact sz37)) rfl ?_))
      | ((with_reducible refine gate_dst (N := 57) rfl ?_); go_must (refine M.out.ev_ldw 4 _ _ rfl rfl rfl Try.underlying39 rfl (by first | exact sz39 | (rw [S1.out]; exact sz39) | (rw [S2.out]; exact sz39) | (rw [S3.out]; exact sz39)) rfl ?_))
      | ((with_reducible refine gate_dst (N := 80) rfl ?_); go_must (refine M.out.ev_ldw 4 _ _ rfl rfl rfl Try.underlying39 rfl (by first | exact sz39 | (rw [S1.out]; exact sz39) | (rw [S2.out]; exact sz39) | (rw [S3.out]; exact sz39)) rfl ?_))
      | ((with_reducible refine gate_store (x := .tmp 11) rfl ?_); go_must (refine M.out.ev_stw 4 _ _ _ rfl rfl rfl rfl _ rfl (by first | rfl | (simp only [S1.out]; rfl) | (simp only [S1.out, S2.out]; rfl) | (simp only [S3.out]; rfl) | (simp only [S1.out, S2.out, S3.out]; rfl)) (by first | exact sz39 | (rw [S1.out]; exact sz39) | (rw [S2.out]; exact sz39) | (rw [S3.out]; exact sz39)) (by first | exact ints_one _ _ | exact Fld.one _ | exact O1.out | exact Cs.one _ | exact Net.one _ | exact Prices.one _ | rfl | (simp [Value.oneCell']; done)) rfl ?_); intro wn m; simp only [List.set_cons_succ, List.set_cons_zero, List.setIfInBounds_toArray] at m; have M := Lib.hid m; clear m)
      | ((with_reducible refine gate_dst (N := 88) rfl ?_); go_must (refine M.out.ev_ldw 1 _ _ rfl rfl rfl Try.underlying37 rfl (by first | exact sz37 | (rw [S1.out]; exact sz37) | (rw [S2.out]; exact sz37) | (rw [S3.out]; exact sz37)) rfl ?_))
      | (go_at_call 31; go_must (refine (l04Priced_any g3 g5 F HF.out p hp c hc _ (M.out.blk 0 rfl) (M.out.blk 2 rfl)).mono ?_); rintro e w_ ⟨rfl, N_⟩; have m := M.out.join N_; clear N_; simp only [List.cons_append, List.nil_append, List.append_nil] at m; have M := Lib.hid m; clear m; rw [← HD.out])
      | ((with_reducible refine gate_dst (N := 28) rfl ?_); go_must (refine M.out.ev_bs0 elem_Net rfl rfl ?_); intro gv28 wv28 m; simp only [List.cons_append, List.nil_append] at m; have M := Lib.hid m; clear m)
      )
    go_ret3
    rw [HR.out, HC.out]
    exact ⟨_, _, rfl, by simp, M.out.only [3] (K := [_]) rfl (by decide)⟩
end Go.Proofs.Ytjkclggdaafmaaa
