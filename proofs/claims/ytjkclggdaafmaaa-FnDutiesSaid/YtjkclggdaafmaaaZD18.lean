/- Texts of a proof, laid together: DutyN. -/
import Derived.Test.YtjkclggdaafmaaaZD13
import Derived.Test.YtjkclggdaafmaaaZD03
import Derived.Test.YtjkclggdaafmaaaZD02
namespace Go.Proofs.Ytjkclggdaafmaaa
set_option linter.unusedSimpArgs false
set_option linter.unusedVariables false
open Go.RowKit
attribute [local go_sem] cell?_mk frozen?_mk
--ONES exact Cs.one _ | exact Net.one _ | exact Prices.one _
set_option maxRecDepth 100000 in
set_option maxHeartbeats 8000000 in
theorem impl_DutiesFor_any (F : Fld) (hF : F.ok) (p : Prices) (hp : p.ok) (c : Cs) (hc : c.ok) (w : World) :
    Calls Try.prog 17 #[.agg F.cells, .agg p.vals.toArray, .agg c.cells] w (RetRowC w 2 1 (duRes F p c).length (flat oneI (duRes F p c)) (gCode F p c)) := by
  have M := Lib.hid (Mem.start w)
  have HF := Lib.hid hF
  have S1 := Lib.hid (Fld.size hF.toLen)
  have HCC := Lib.hid hc
  clear hF
  by_cases hk : prCode F p [] c = 0
  · have h1 := (prCode_0 hk).2
    have HG := Lib.hid (prCode_0 hk).1
    have hin := (ntCode_0 h1).2.2.2
    have h12 := (ntCode_0 h1).2.2.1
    have HIN := Lib.hid hin
    have HK := Lib.hid hk
    have HV := Lib.hid (netsOk_iff.1 (ntCode_0 h1).1).1
    cases hw : wood F c
    · have HW := Lib.hid hw
      have HR := Lib.hid (show duRes F p c = duTo F p c.all c.all.length by rw [duRes, if_pos hk, hw]; rfl)
      have HC := Lib.hid (show gCode F p c = 0 by rw [gCode, if_pos hk, hw]; rfl)
      clear hk h1 hw hin
      go_enter Try.func17, Try.ntmps17
      go_wp2_with (first
        | ((with_reducible refine gate_dst (N := 3) rfl ?_); go_must (refine M.out.ev_new rfl (by first | (go_simp; done) | (go_simp; rfl)) ?_); intro g3 w3 m; simp only [List.cons_append, List.nil_append] at m; have M := Lib.hid m; clear m)
        | ((with_reducible refine gate_dst (N := 4) rfl ?_); go_must (refine M.out.ev_new rfl (by first | (go_simp; done) | (go_simp; rfl)) ?_); intro g4 w4 m; simp only [List.cons_append, List.nil_append] at m; have M := Lib.hid m; clear m)
        | ((with_reducible refine gate_dst (N := 5) rfl ?_); go_must (refine M.out.ev_new rfl (by first | (go_simp; done) | (go_simp; rfl)) ?_); intro g5 w5 m; simp only [List.cons_append, List.nil_append] at m; have M := Lib.hid m; clear m)
        | ((with_reducible refine gate_dst (N := 20) rfl ?_); go_must (refine M.out.ev_ldw 1 _ _ rfl rfl rfl Try.underlying37 rfl (by first | exact sz37 | (rw [S1.out]; exact sz37) | (rw [S2.out]; exact sz37) | (rw [S3.out]; exact sz37)) rfl ?_))
        | ((with_reducible refine gate_dst (N := 21) rfl ?_); go_must (refine M.out.ev_ldw 2 _ _ rfl rfl rfl Try.underlying39 rfl (by first | exact sz39 | (rw [S1.out]; exact sz39) | (rw [S2.out]; exact sz39) | (rw [S3.out]; exact sz39)) rfl ?_))
        | ((with_reducible refine gate_dst (N := 28) rfl ?_); go_must (refine M.out.ev_ldw 2 _ _ rfl rfl rfl Try.underlying39 rfl (by first | exact sz39 | (rw [S1.out]; exact sz39) | (rw [S2.out]; exact sz39) | (rw [S3.out]; exact sz39)) rfl ?_))
        | ((with_reducible refine gate_dst (N := 31) rfl ?_); go_must (refine M.out.ev_ldw 2 _ _ rfl rfl rfl Try.underlying39 rfl (by first | exact sz39 | (rw [S1.out]; exact sz39) | (rw [S2.out]; exact sz39) | (rw [S3.out]; exact sz39)) rfl ?_))
        | ((with_reducible refine gate_dst (N := 15) rfl ?_); go_must (refine M.out.ev_new rfl (by first | (go_simp; done) | (go_simp; rfl)) ?_); intro g15 w15 m; simp only [List.cons_append, List.nil_append] at m; have M := Lib.hid m; clear m)
        | ((with_reducible refine gate_store (x := .tmp 15) rfl ?_); go_must (refine M.out.ev_stw 6 _ _ _ rfl rfl rfl rfl _ rfl (by first | rfl | (simp only [S1.out]; rfl) | (simp only [S1.out, S2.out]; rfl) | (simp only [S3.out]; rfl) | (simp only [S1.out, S2.out, S3.out]; rfl)) (by first | exact sz65 | (rw [S1.out]; exact sz65) | (rw [S2.out]; exact sz65) | (rw [S3.out]; exact sz65)) (by first | exact ints_one _ _ | exact Fld.one _ | exact O1.out | exact Cs.one _ | exact Net.one _ | exact Prices.one _ | rfl | (simp [Value.oneCell']; done)) rfl ?_); intro wn m; simp only [List.set_cons_succ, List.set_cons_zero, List.setIfInBounds_toArray] at m; have M := Lib.hid m; clear m)
        | ((with_reducible refine gate_dst (N := 46) rfl ?_); go_must (refine M.out.ev_ldw 1 _ _ rfl rfl rfl Try.underlying37 rfl (by first | exact sz37 | (rw [S1.out]; exact sz37) | (rw [S2.out]; exact sz37) | (rw [S3.out]; exact sz37)) rfl ?_))
        | ((with_reducible refine gate_dst (N := 47) rfl ?_); go_must (refine M.out.ev_ldw 6 _ _ rfl rfl rfl Try.underlying65 rfl (by first | exact sz65 | (rw [S1.out]; exact sz65) | (rw [S2.out]; exact sz65) | (rw [S3.out]; exact sz65)) rfl ?_))
        | ((with_reducible refine gate_dst (N := 50) rfl ?_); go_must (refine M.out.ev_ldw 6 _ _ rfl rfl rfl Try.underlying65 rfl (by first | exact sz65 | (rw [S1.out]; exact sz65) | (rw [S2.out]; exact sz65) | (rw [S3.out]; exact sz65)) rfl ?_))
        | ((with_reducible refine gate_dst (N := 17) rfl ?_); go_must (refine M.out.ev_new rfl (by first | (go_simp; done) | (go_simp; rfl)) ?_); intro g17 w17 m; simp only [List.cons_append, List.nil_append] at m; have M := Lib.hid m; clear m)
        | ((with_reducible refine gate_store (x := .tmp 17) rfl ?_); go_must (refine M.out.ev_stw 8 _ _ _ rfl rfl rfl rfl _ rfl (by first | rfl | (simp only [S1.out]; rfl) | (simp only [S1.out, S2.out]; rfl) | (simp only [S3.out]; rfl) | (simp only [S1.out, S2.out, S3.out]; rfl)) (by first | exact sz39 | (rw [S1.out]; exact sz39) | (rw [S2.out]; exact sz39) | (rw [S3.out]; exact sz39)) (by first | exact ints_one _ _ | exact Fld.one _ | exact O1.out | exact Cs.one _ | exact Net.one _ | exact Prices.one _ | rfl | (simp [Value.oneCell']; done)) rfl ?_); intro wn m; simp only [List.set_cons_succ, List.set_cons_zero, List.setIfInBounds_toArray] at m; have M := Lib.hid m; clear m)
        | ((with_reducible refine gate_dst (N := 59) rfl ?_); go_must (refine M.out.ev_ldw 8 _ _ rfl rfl rfl Try.underlying39 rfl (by first | exact sz39 | (rw [S1.out]; exact sz39) | (rw [S2.out]; exact sz39) | (rw [S3.out]; exact sz39)) rfl ?_))
        | (go_at_call 41; go_must (refine (pricesNil_any g3 F HF.out p hp c hc _ (M.out.blk 0 rfl)).mono ?_); rintro e w_ ⟨rfl, N_⟩; have m := M.out.join N_; clear N_; simp only [List.cons_append, List.nil_append, List.append_nil] at m; have M := Lib.hid m; clear m; rw [HK.out])
        | (go_at_call 43; go_must (refine (haveTree_any g3 F HF.out c hc HIN.out _ (M.out.blk 0 rfl)).mono ?_); rintro e w_ ⟨rfl, N_⟩; have m := M.out.join N_; clear N_; simp only [List.cons_append, List.nil_append, List.append_nil] at m; have M := Lib.hid m; clear m; rw [HW.out])
        | ((with_reducible refine gate_dst (N := 30) rfl ?_); go_must (refine M.out.ev_bs0 elem_int64 rfl rfl ?_); intro gv30 wv30 m; simp only [List.cons_append, List.nil_append] at m; have M := Lib.hid m; clear m)
        | (go_at_call 44; go_must (refine (ListOf_any c hc _).mono ?_); rintro e w_ ⟨A_, c_, rfl, hc_, N_⟩; have m := M.out.join N_; clear N_; simp only [List.cons_append, List.nil_append, List.append_nil] at m; have M := Lib.hid m; clear m)
        )
      go_loopw [9, 35] (fun s v wr => ∃ t : Nat, t ≤ c.all.length ∧ lenOf s = t ∧ v = .int .i64 t ∧ Mem w wr [.blk g3 35 F.cells, .blk g4 37 p.vals.toArray, .blk g5 39 c.cells, .row s 2 1 (duTo F p c.all t).length (flat oneI (duTo F p c.all t)), .row (.slice A_ c.all.length c_) 2 1 c.all.length (flat one64 c.all)])
        (fun _ v _ => c.all.length - (intOf v).toNat)
      case atStart => exact ⟨0, by omega, rfl, rfl, M.out⟩
      case round =>
        clear M
        obtain ⟨t, ht, hlo, rfl, m⟩ := hrel
        have M := Lib.hid m
        clear m
        have htl : (duTo F p c.all t).length ≤ t ∧ t ≤ (duTo F p c.all t).length := by rw [duTo_len]; exact ⟨Nat.le_refl _, Nat.le_refl _⟩
        have hab := duTo_b HV.out HG.out c.all t
        have hbl := duB_le (t := t) (by omega)
        obtain ⟨B, cB, rfl, hcB, _⟩ := M.out.row_slice 3 rfl
        clear hlo
        by_cases hlt : t < c.all.length
        · have i0 : (0 : Int) ≤ (t : Int) := by omega
          have i1 : (t : Int) < (c.all.length : Int) := by omega
          obtain ⟨hat, hmem, hj2⟩ := all_getD hlt
          have hk2 := HIN.out _ hmem
          have HK2 := Lib.hid hk2
          have hnl := netsAt_len HV.out hj2
          have HSN := Lib.hid (show ∀ n ∈ netsAt F (c.all.getD t 0), n.snug from fun n hn => Net.snug_of HV.out (netsAt_fits hn))
          have HDU := Lib.hid (show duTo F p c.all (t + 1) = duTo F p c.all t ++ [dFold p c.all (duTo F p c.all t) (netsAt F (c.all.getD t 0)) (netsAt F (c.all.getD t 0)).length] from rfl)
          have HDB := Lib.hid (fun (n : Net) (hn : n.plain = true) => own_b HG.out c.all (duTo F p c.all t) hn)
          have HFB := Lib.hid (dFold_b HG.out c.all (duTo F p c.all t) (ns := netsAt F (c.all.getD t 0)) (fun n hn => (HSN.out n hn).1) hab.1)
          obtain ⟨ds, hds⟩ : ∃ ds, ds = duTo F p c.all t := ⟨_, rfl⟩
          obtain ⟨ns, hns⟩ : ∃ ns, ns = netsAt F (c.all.getD t 0) := ⟨_, rfl⟩
          obtain ⟨k, hkk⟩ : ∃ k, k = c.all.getD t 0 := ⟨_, rfl⟩
          have ALLN := Lib.hid (fun (w : World) hb => allNets_any g3 (t := 35) F HF.out HV.out (c.all.getD t 0) hj2 HK2.out w hb)
          rw [← hds, ← hns] at HDU
          rw [← hns] at HSN hnl
          rw [← hds] at HDB
          rw [← hds, ← hns] at HFB
          rw [← hns, ← hkk] at ALLN
          rw [← hkk] at hat hj2
          rw [← hds] at htl hab M ⊢
          have HAT := Lib.hid hat
          clear hds hns hkk hmem hk2 hat
          obtain ⟨lb, loff, rfl, _⟩ := (M.out.slof 4 rfl).2 (by omega)
          have x0 := (M.out.slof 4 rfl).at64 HAT.out
          go_wp2_with (first
            | ((with_reducible refine gate_dst (N := 3) rfl ?_); go_must (refine M.out.ev_new rfl (by first | (go_simp; done) | (go_simp; rfl)) ?_); intro g3 w3 m; simp only [List.cons_append, List.nil_append] at m; have M := Lib.hid m; clear m)
            | ((with_reducible refine gate_dst (N := 4) rfl ?_); go_must (refine M.out.ev_new rfl (by first | (go_simp; done) | (go_simp; rfl)) ?_); intro g4 w4 m; simp only [List.cons_append, List.nil_append] at m; have M := Lib.hid m; clear m)
            | ((with_reducible refine gate_dst (N := 5) rfl ?_); go_must (refine M.out.ev_new rfl (by first | (go_simp; done) | (go_simp; rfl)) ?_); intro g5 w5 m; simp only [List.cons_append, List.nil_append] at m; have M := Lib.hid m; clear m)
            | ((with_reducible refine gate_dst (N := 20) rfl ?_); go_must (refine M.out.ev_ldw 1 _ _ rfl rfl rfl Try.underlying37 rfl (by first | exact sz37 | (rw [S1.out]; exact sz37) | (rw [S2.out]; exact sz37) | (rw [S3.out]; exact sz37)) rfl ?_))
            | ((with_reducible refine gate_dst (N := 21) rfl ?_); go_must (refine M.out.ev_ldw 2 _ _ rfl rfl rfl Try.underlying39 rfl (by first | exact sz39 | (rw [S1.out]; exact sz39) | (rw [S2.out]; exact sz39) | (rw [S3.out]; exact sz39)) rfl ?_))
            | ((with_reducible refine gate_dst (N := 28) rfl ?_); go_must (refine M.out.ev_ldw 2 _ _ rfl rfl rfl Try.underlying39 rfl (by first | exact sz39 | (rw [S1.out]; exact sz39) | (rw [S2.out]; exact sz39) | (rw [S3.out]; exact sz39)) rfl ?_))
            | ((with_reducible refine gate_dst (N := 31) rfl ?_); go_must (refine M.out.ev_ldw 2 _ _ rfl rfl rfl Try.underlying39 rfl (by first | exact sz39 | (rw [S1.out]; exact sz39) | (rw [S2.out]; exact sz39) | (rw [S3.out]; exact sz39)) rfl ?_))
            | ((with_reducible refine gate_dst (N := 15) rfl ?_); go_must (refine M.out.ev_new rfl (by first | (go_simp; done) | (go_simp; rfl)) ?_); intro g15 w15 m; simp only [List.cons_append, List.nil_append] at m; have M := Lib.hid m; clear m)
            | ((with_reducible refine gate_store (x := .tmp 15) rfl ?_); go_must (refine M.out.ev_stw 6 _ _ _ rfl rfl rfl rfl _ rfl (by first | rfl | (simp only [S1.out]; rfl) | (simp only [S1.out, S2.out]; rfl) | (simp only [S3.out]; rfl) | (simp only [S1.out, S2.out, S3.out]; rfl)) (by first | exact sz65 | (rw [S1.out]; exact sz65) | (rw [S2.out]; exact sz65) | (rw [S3.out]; exact sz65)) (by first | exact ints_one _ _ | exact Fld.one _ | exact O1.out | exact Cs.one _ | exact Net.one _ | exact Prices.one _ | rfl | (simp [Value.oneCell']; done)) rfl ?_); intro wn m; simp only [List.set_cons_succ, List.set_cons_zero, List.setIfInBounds_toArray] at m; have M := Lib.hid m; clear m)
            | ((with_reducible refine gate_dst (N := 46) rfl ?_); go_must (refine M.out.ev_ldw 1 _ _ rfl rfl rfl Try.underlying37 rfl (by first | exact sz37 | (rw [S1.out]; exact sz37) | (rw [S2.out]; exact sz37) | (rw [S3.out]; exact sz37)) rfl ?_))
            | ((with_reducible refine gate_dst (N := 47) rfl ?_); go_must (refine M.out.ev_ldw 6 _ _ rfl rfl rfl Try.underlying65 rfl (by first | exact sz65 | (rw [S1.out]; exact sz65) | (rw [S2.out]; exact sz65) | (rw [S3.out]; exact sz65)) rfl ?_))
            | ((with_reducible refine gate_dst (N := 50) rfl ?_); go_must (refine M.out.ev_ldw 6 _ _ rfl rfl rfl Try.underlying65 rfl (by first | exact sz65 | (rw [S1.out]; exact sz65) | (rw [S2.out]; exact sz65) | (rw [S3.out]; exact sz65)) rfl ?_))
            | ((with_reducible refine gate_dst (N := 17) rfl ?_); go_must (refine M.out.ev_new rfl (by first | (go_simp; done) | (go_simp; rfl)) ?_); intro g17 w17 m; simp only [List.cons_append, List.nil_append] at m; have M := Lib.hid m; clear m)
            | ((with_reducible refine gate_store (x := .tmp 17) rfl ?_); go_must (refine M.out.ev_stw 8 _ _ _ rfl rfl rfl rfl _ rfl (by first | rfl | (simp only [S1.out]; rfl) | (simp only [S1.out, S2.out]; rfl) | (simp only [S3.out]; rfl) | (simp only [S1.out, S2.out, S3.out]; rfl)) (by first | exact sz39 | (rw [S1.out]; exact sz39) | (rw [S2.out]; exact sz39) | (rw [S3.out]; exact sz39)) (by first | exact ints_one _ _ | exact Fld.one _ | exact O1.out | exact Cs.one _ | exact Net.one _ | exact Prices.one _ | rfl | (simp [Value.oneCell']; done)) rfl ?_); intro wn m; simp only [List.set_cons_succ, List.set_cons_zero, List.setIfInBounds_toArray] at m; have M := Lib.hid m; clear m)
            | ((with_reducible refine gate_dst (N := 59) rfl ?_); go_must (refine M.out.ev_ldw 8 _ _ rfl rfl rfl Try.underlying39 rfl (by first | exact sz39 | (rw [S1.out]; exact sz39) | (rw [S2.out]; exact sz39) | (rw [S3.out]; exact sz39)) rfl ?_))
            | (go_at_call 45; go_must (refine (ALLN.out _ (M.out.blk 0 rfl)).mono ?_); rintro e w_ ⟨A2, c2, rfl, hc2, N_⟩; have m := M.out.join N_; clear N_; simp only [List.cons_append, List.nil_append, List.append_nil] at m; have M := Lib.hid m; clear m)
            )
          go_loopw [13, 42] (fun u x wr => ∃ i : Nat, i ≤ ns.length ∧ x = .int .i64 i ∧ u = .int .i64 (dFold p c.all ds ns i) ∧ Mem w wr [.blk g3 35 F.cells, .blk g4 37 p.vals.toArray, .blk g5 39 c.cells, .row (.slice B ds.length cB) 2 1 ds.length (flat oneI ds), .row (.slice (some ⟨lb, loff, none⟩) c.all.length c_) 2 1 c.all.length (flat one64 c.all), .row (.slice A2 ns.length c2) 65 4 ns.length (flat Net.vals ns)])
            (fun _ x _ => ns.length - (intOf x).toNat)
          case atStart => exact ⟨0, by omega, rfl, rfl, M.out⟩
          case round =>
            clear M x0
            obtain ⟨i, hi, rfl, rfl, m⟩ := hrel
            have M := Lib.hid m
            clear m
            by_cases hit : i < ns.length
            · obtain ⟨nb, noff, rfl, _⟩ := (M.out.slof 5 rfl).2 (by omega)
              have HXK := Lib.hid (show ns[i]? = some ns[i] from List.getElem?_eq_getElem hit)
              have HFS := Lib.hid (dFold_succ p c.all ds hit)
              obtain ⟨hpl, hx10, hy10⟩ := HSN.out ns[i] (List.getElem_mem hit)
              have hca := (costOk HG.out hpl).k
              have hob := HDB.out ns[i] hpl
              have hfb := HFB.out i hi
              have q0 : (0 : Int) ≤ (i : Int) := by omega
              have q1 : (i : Int) < (ns.length : Int) := by omega
              obtain ⟨x, hx⟩ : ∃ x, x = ns[i] := ⟨_, rfl⟩
              rw [← hx] at HXK HFS hpl hx10 hy10 hca hob
              have VN := Lib.hid (Net.one x)
              have CO := Lib.hid (show (netSet x).ok from pset_ok _)
              have HOW := Lib.hid (show ownN p c.all ds x = netCost p x - dTo x c.all ds ds.length from rfl)
              obtain ⟨a, ha⟩ : ∃ a, a = netCost p x := ⟨_, rfl⟩
              have CA := Lib.hid ha.symm
              obtain ⟨d0, hd0⟩ : ∃ d0, d0 = dFold p c.all ds ns i := ⟨_, rfl⟩
              obtain ⟨ow, how⟩ : ∃ ow, ow = ownN p c.all ds x := ⟨_, rfl⟩
              rw [← ha] at hca HOW
              rw [← hd0] at HFS hfb
              rw [← how] at HFS HOW hob
              rw [← hd0]
              clear hx ha hd0 how
              go_wp2_with (first
                | ((with_reducible refine gate_dst (N := 3) rfl ?_); go_must (refine M.out.ev_new rfl (by first | (go_simp; done) | (go_simp; rfl)) ?_); intro g3 w3 m; simp only [List.cons_append, List.nil_append] at m; have M := Lib.hid m; clear m)
                | ((with_reducible refine gate_dst (N := 4) rfl ?_); go_must (refine M.out.ev_new rfl (by first | (go_simp; done) | (go_simp; rfl)) ?_); intro g4 w4 m; simp only [List.cons_append, List.nil_append] at m; have M := Lib.hid m; clear m)
                | ((with_reducible refine gate_dst (N := 5) rfl ?_); go_must (refine M.out.ev_new rfl (by first | (go_simp; done) | (go_simp; rfl)) ?_); intro g5 w5 m; simp only [List.cons_append, List.nil_append] at m; have M := Lib.hid m; clear m)
                | ((with_reducible refine gate_dst (N := 20) rfl ?_); go_must (refine M.out.ev_ldw 1 _ _ rfl rfl rfl Try.underlying37 rfl (by first | exact sz37 | (rw [S1.out]; exact sz37) | (rw [S2.out]; exact sz37) | (rw [S3.out]; exact sz37)) rfl ?_))
                | ((with_reducible refine gate_dst (N := 21) rfl ?_); go_must (refine M.out.ev_ldw 2 _ _ rfl rfl rfl Try.underlying39 rfl (by first | exact sz39 | (rw [S1.out]; exact sz39) | (rw [S2.out]; exact sz39) | (rw [S3.out]; exact sz39)) rfl ?_))
                | ((with_reducible refine gate_dst (N := 28) rfl ?_); go_must (refine M.out.ev_ldw 2 _ _ rfl rfl rfl Try.underlying39 rfl (by first | exact sz39 | (rw [S1.out]; exact sz39) | (rw [S2.out]; exact sz39) | (rw [S3.out]; exact sz39)) rfl ?_))
                | ((with_reducible refine gate_dst (N := 31) rfl ?_); go_must (refine M.out.ev_ldw 2 _ _ rfl rfl rfl Try.underlying39 rfl (by first | exact sz39 | (rw [S1.out]; exact sz39) | (rw [S2.out]; exact sz39) | (rw [S3.out]; exact sz39)) rfl ?_))
                | ((with_reducible refine gate_dst (N := 15) rfl ?_); go_must (refine M.out.ev_new rfl (by first | (go_simp; done) | (go_simp; rfl)) ?_); intro g15 w15 m; simp only [List.cons_append, List.nil_append] at m; have M := Lib.hid m; clear m)
                | ((with_reducible refine gate_store (x := .tmp 15) rfl ?_); go_must (refine M.out.ev_stw 6 _ _ _ rfl rfl rfl rfl _ rfl (by first | rfl | (simp only [S1.out]; rfl) | (simp only [S1.out, S2.out]; rfl) | (simp only [S3.out]; rfl) | (simp only [S1.out, S2.out, S3.out]; rfl)) (by first | exact sz65 | (rw [S1.out]; exact sz65) | (rw [S2.out]; exact sz65) | (rw [S3.out]; exact sz65)) (by first | exact ints_one _ _ | exact Fld.one _ | exact O1.out | exact Cs.one _ | exact Net.one _ | exact Prices.one _ | rfl | (simp [Value.oneCell']; done)) rfl ?_); intro wn m; simp only [List.set_cons_succ, List.set_cons_zero, List.setIfInBounds_toArray] at m; have M := Lib.hid m; clear m)
                | ((with_reducible refine gate_dst (N := 46) rfl ?_); go_must (refine M.out.ev_ldw 1 _ _ rfl rfl rfl Try.underlying37 rfl (by first | exact sz37 | (rw [S1.out]; exact sz37) | (rw [S2.out]; exact sz37) | (rw [S3.out]; exact sz37)) rfl ?_))
                | ((with_reducible refine gate_dst (N := 47) rfl ?_); go_must (refine M.out.ev_ldw 6 _ _ rfl rfl rfl Try.underlying65 rfl (by first | exact sz65 | (rw [S1.out]; exact sz65) | (rw [S2.out]; exact sz65) | (rw [S3.out]; exact sz65)) rfl ?_))
                | ((with_reducible refine gate_dst (N := 50) rfl ?_); go_must (refine M.out.ev_ldw 6 _ _ rfl rfl rfl Try.underlying65 rfl (by first | exact sz65 | (rw [S1.out]; exact sz65) | (rw [S2.out]; exact sz65) | (rw [S3.out]; exact sz65)) rfl ?_))
                | ((with_reducible refine gate_dst (N := 17) rfl ?_); go_must (refine M.out.ev_new rfl (by first | (go_simp; done) | (go_simp; rfl)) ?_); intro g17 w17 m; simp only [List.cons_append, List.nil_append] at m; have M := Lib.hid m; clear m)
                | ((with_reducible refine gate_store (x := .tmp 17) rfl ?_); go_must (refine M.out.ev_stw 8 _ _ _ rfl rfl rfl rfl _ rfl (by first | rfl | (simp only [S1.out]; rfl) | (simp only [S1.out, S2.out]; rfl) | (simp only [S3.out]; rfl) | (simp only [S1.out, S2.out, S3.out]; rfl)) (by first | exact sz39 | (rw [S1.out]; exact sz39) | (rw [S2.out]; exact sz39) | (rw [S3.out]; exact sz39)) (by first | exact ints_one _ _ | exact Fld.one _ | exact O1.out | exact Cs.one _ | exact Net.one _ | exact Prices.one _ | rfl | (simp [Value.oneCell']; done)) rfl ?_); intro wn m; simp only [List.set_cons_succ, List.set_cons_zero, List.setIfInBounds_toArray] at m; have M := Lib.hid m; clear m)
                | ((with_reducible refine gate_dst (N := 59) rfl ?_); go_must (refine M.out.ev_ldw 8 _ _ rfl rfl rfl Try.underlying39 rfl (by first | exact sz39 | (rw [S1.out]; exact sz39) | (rw [S2.out]; exact sz39) | (rw [S3.out]; exact sz39)) rfl ?_))
                | ((with_reducible refine gate_dst (N := 45) rfl ?_); go_must (refine ev_ldr _ _ rfl rfl (range_at Net.vl ((M.out.slof 5 rfl).range (by omega)) HXK.out) Try.underlying65 rfl (by first | exact sz65 | (rw [S1.out]; exact sz65)) rfl ?_))
                )
              refine region_anyH (fun w' => Mem w w' [.blk g3 35 F.cells, .blk g4 37 p.vals.toArray, .blk g5 39 c.cells, .row (.slice B ds.length cB) 2 1 ds.length (flat oneI ds), .row (.slice (some ⟨lb, loff, none⟩) c.all.length c_) 2 1 c.all.length (flat one64 c.all), .row (.slice (some ⟨nb, noff, none⟩) ns.length c2) 65 4 ns.length (flat Net.vals ns), .blk g15 65 x.vals.toArray]) (by kernel_rfl) ?_
              have M9 := M.out.drew
              clear M
              apply merge2
              case hA =>
                intro REST0
                apply merge2
                case hA =>
                  intro REST1
                  apply merge2
                  case hA =>
                    intro REST2
                    apply merge2
                    case hA =>
                      intro REST3
                      have M := Lib.hid M9
                      apply takeH (i := 0) 46 rfl (by kernel_rfl) (by kernel_rfl) (by kernel_rfl) (fun _ _ _ h => h) rfl (by first | exact M.out | exact M.out.take 7)
                      case' hy => exact yldw _ _ rfl rfl Try.underlying37 rfl (by first | exact sz37 | (rw [S1.out]; exact sz37) | (rw [S2.out]; exact sz37) | (rw [S3.out]; exact sz37)) rfl (fun w' hS => hS.blk 1 rfl)
                      try simp only [Act.put, List.getElem_toArray, List.getElem_cons_succ, List.getElem_cons_zero, List.setIfInBounds_toArray, List.set_cons_succ, List.set_cons_zero]
                      apply takeH (i := 1) 47 rfl (by kernel_rfl) (by kernel_rfl) (by kernel_rfl) (fun _ _ _ h => h) rfl (by first | exact M.out | exact M.out.take 7)
                      case' hy => exact yldw _ _ rfl rfl Try.underlying65 rfl (by first | exact sz65 | (rw [S1.out]; exact sz65) | (rw [S2.out]; exact sz65) | (rw [S3.out]; exact sz65)) rfl (fun w' hS => hS.blk 6 rfl)
                      try simp only [Act.put, List.getElem_toArray, List.getElem_cons_succ, List.getElem_cons_zero, List.setIfInBounds_toArray, List.set_cons_succ, List.set_cons_zero]
                      apply takeH (i := 4) 50 rfl (by kernel_rfl) (by kernel_rfl) (by kernel_rfl) (fun _ _ _ h => h) rfl (by first | exact M.out | exact M.out.take 7)
                      case' hy => exact yldw _ _ rfl rfl Try.underlying65 rfl (by first | exact sz65 | (rw [S1.out]; exact sz65) | (rw [S2.out]; exact sz65) | (rw [S3.out]; exact sz65)) rfl (fun w' hS => hS.blk 6 rfl)
                      try simp only [Act.put, List.getElem_toArray, List.getElem_cons_succ, List.getElem_cons_zero, List.setIfInBounds_toArray, List.set_cons_succ, List.set_cons_zero]
                      refine any2H 2 6 (by kernel_rfl) rfl rfl (fun K hK => ?_) (fun K hK => ?_)
                      rotate_right 1
                      case' _ =>
                        go_wp2_with (first | ((with_reducible refine gate_dst (N := 17) rfl ?_); go_must (refine M.out.ev_new rfl (by first | (go_simp; done) | (go_simp; rfl)) ?_); intro g17 w17 m; simp only [List.cons_append, List.nil_append] at m; have M := Lib.hid m; clear m))
                        refine onward_normal (hK _ _ ⟨(by first | exact M.out | exact M.out.take 7), ?_⟩)
                        clear hK K
                        try simp only [Act.put, List.getElem_toArray, List.getElem_cons_succ, List.getElem_cons_zero, List.setIfInBounds_toArray, List.set_cons_succ, List.set_cons_zero]
                        refine any1H 2 (by kernel_rfl) rfl (fun K hK => ?_)
                        go_wp2_with (first | ((with_reducible refine gate_dst (N := 48) rfl ?_); go_must (refine M.out.ev_bs1 elem_Net rfl _ rfl x.vals.toArray rfl rfl (by decide) ?_); intro g48 w48 m; simp only [List.cons_append, List.nil_append] at m; have M := Lib.hid m; clear m))
                        refine onward_normal (hK _ _ ⟨(by first | exact M.out | exact M.out.take 7), ?_⟩)
                        clear hK K
                        try simp only [Act.put, List.getElem_toArray, List.getElem_cons_succ, List.getElem_cons_zero, List.setIfInBounds_toArray, List.set_cons_succ, List.set_cons_zero]
                        have m := M.out.only [0, 1, 2, 3, 4, 5, 6, 8, 7] (K := [_, _, _, _, _, _, _, _, _]) rfl (by decide)
                        exact REST3 g48 g17 w48 m
                      rotate_right 1
                      case' _ =>
                        go_wp2_with (first | ((with_reducible refine gate_dst (N := 48) rfl ?_); go_must (refine M.out.ev_bs1 elem_Net rfl _ rfl x.vals.toArray rfl rfl (by decide) ?_); intro g48 w48 m; simp only [List.cons_append, List.nil_append] at m; have M := Lib.hid m; clear m))
                        refine onward_normal (hK _ _ ⟨(by first | exact M.out | exact M.out.take 7), ?_⟩)
                        clear hK K
                        try simp only [Act.put, List.getElem_toArray, List.getElem_cons_succ, List.getElem_cons_zero, List.setIfInBounds_toArray, List.set_cons_succ, List.set_cons_zero]
                        refine any2H 3 6 (by kernel_rfl) rfl rfl (fun K hK => ?_) (fun K hK => ?_)
                        rotate_right 1
                        case' _ =>
                          go_wp2_with (first | ((with_reducible refine gate_dst (N := 17) rfl ?_); go_must (refine M.out.ev_new rfl (by first | (go_simp; done) | (go_simp; rfl)) ?_); intro g17 w17 m; simp only [List.cons_append, List.nil_append] at m; have M := Lib.hid m; clear m))
                          refine onward_normal (hK _ _ ⟨(by first | exact M.out | exact M.out.take 7), ?_⟩)
                          clear hK K
                          try simp only [Act.put, List.getElem_toArray, List.getElem_cons_succ, List.getElem_cons_zero, List.setIfInBounds_toArray, List.set_cons_succ, List.set_cons_zero]
                          exact REST3 g48 g17 w17 M.out
                        rotate_right 1
                        case' _ =>
                          go_wp2_with (first | (go_at_call 47; go_must (first | (refine Calls.mono (calls_args (by with_reducible rfl) (cost1_any p HG.out g48 x hpl _ (M.out.blk 7 rfl))) ?_) | (refine Calls.mono (calls_args (by with_reducible rfl) (cost1_any p HG.out g48 x hpl _ (M.out.blk 8 rfl))) ?_)); rintro e w_ ⟨rfl, N_⟩; have m := M.out.join N_; clear N_; simp only [List.cons_append, List.nil_append, List.append_nil] at m; have M := Lib.hid m; clear m; rw [CA.out]))
                          refine onward_normal (hK _ _ ⟨(by first | exact M.out | exact M.out.take 7), ?_⟩)
                          clear hK K
                          try simp only [Act.put, List.getElem_toArray, List.getElem_cons_succ, List.getElem_cons_zero, List.setIfInBounds_toArray, List.set_cons_succ, List.set_cons_zero]
                          refine any2H 5 6 (by kernel_rfl) rfl rfl (fun K hK => ?_) (fun K hK => ?_)
                          rotate_right 1
                          case' _ =>
                            go_wp2_with (first | ((with_reducible refine gate_dst (N := 17) rfl ?_); go_must (refine M.out.ev_new rfl (by first | (go_simp; done) | (go_simp; rfl)) ?_); intro g17 w17 m; simp only [List.cons_append, List.nil_append] at m; have M := Lib.hid m; clear m))
                            refine onward_normal (hK _ _ ⟨(by first | exact M.out | exact M.out.take 7), ?_⟩)
                            clear hK K
                            try simp only [Act.put, List.getElem_toArray, List.getElem_cons_succ, List.getElem_cons_zero, List.setIfInBounds_toArray, List.set_cons_succ, List.set_cons_zero]
                            exact REST2 g48 g17 w17 M.out
                          rotate_right 1
                          case' _ =>
                            go_wp2_with (first | (go_at_call 46; go_must (refine (cellsN_any x hpl hx10 hy10 _).mono ?_); rintro e w_ ⟨rfl, N_⟩; have m := M.out.join N_; clear N_; simp only [List.cons_append, List.nil_append, List.append_nil] at m; have M := Lib.hid m; clear m))
                            refine onward_normal (hK _ _ ⟨(by first | exact M.out | exact M.out.take 7), ?_⟩)
                            clear hK K
                            try simp only [Act.put, List.getElem_toArray, List.getElem_cons_succ, List.getElem_cons_zero, List.setIfInBounds_toArray, List.set_cons_succ, List.set_cons_zero]
                            refine any1H 6 (by kernel_rfl) rfl (fun K hK => ?_)
                            go_wp2_with (first | ((with_reducible refine gate_dst (N := 17) rfl ?_); go_must (refine M.out.ev_new rfl (by first | (go_simp; done) | (go_simp; rfl)) ?_); intro g17 w17 m; simp only [List.cons_append, List.nil_append] at m; have M := Lib.hid m; clear m))
                            refine onward_normal (hK _ _ ⟨(by first | exact M.out | exact M.out.take 7), ?_⟩)
                            clear hK K
                            try simp only [Act.put, List.getElem_toArray, List.getElem_cons_succ, List.getElem_cons_zero, List.setIfInBounds_toArray, List.set_cons_succ, List.set_cons_zero]
                            apply takeH (i := 7) 16 rfl (by kernel_rfl) (by kernel_rfl) (by kernel_rfl) (fun _ _ _ h => h) rfl (by first | exact M.out | exact M.out.take 7)
                            case' hy =>
                              refine Or.inl ⟨by first | rfl | (go_simp; done), ?_⟩
                              intro w hS
                              clear hS
                              go_simp
                              try with_reducible rfl
                            try simp only [Act.put, List.getElem_toArray, List.getElem_cons_succ, List.getElem_cons_zero, List.setIfInBounds_toArray, List.set_cons_succ, List.set_cons_zero]
                            exact REST1 g48 g17 w17 M.out
                    case hB =>
                      intro g48 g17 w_ m
                      have M := Lib.hid m
                      clear m
                      refine any1H 3 (by kernel_rfl) rfl (fun K hK => ?_)
                      go_wp2_with (first | (go_at_call 47; go_must (first | (refine Calls.mono (calls_args (by with_reducible rfl) (cost1_any p HG.out g48 x hpl _ (M.out.blk 7 rfl))) ?_) | (refine Calls.mono (calls_args (by with_reducible rfl) (cost1_any p HG.out g48 x hpl _ (M.out.blk 8 rfl))) ?_)); rintro e w_ ⟨rfl, N_⟩; have m := M.out.join N_; clear N_; simp only [List.cons_append, List.nil_append, List.append_nil] at m; have M := Lib.hid m; clear m; rw [CA.out]))
                      refine onward_normal (hK _ _ ⟨(by first | exact M.out | exact M.out.take 7), ?_⟩)
                      clear hK K
                      try simp only [Act.put, List.getElem_toArray, List.getElem_cons_succ, List.getElem_cons_zero, List.setIfInBounds_toArray, List.set_cons_succ, List.set_cons_zero]
                      exact REST2 g48 g17 w_ M.out
                  case hB =>
                    intro g48 g17 w_ m
                    have M := Lib.hid m
                    clear m
                    refine any1H 5 (by kernel_rfl) rfl (fun K hK => ?_)
                    go_wp2_with (first | (go_at_call 46; go_must (refine (cellsN_any x hpl hx10 hy10 _).mono ?_); rintro e w_ ⟨rfl, N_⟩; have m := M.out.join N_; clear N_; simp only [List.cons_append, List.nil_append, List.append_nil] at m; have M := Lib.hid m; clear m))
                    refine onward_normal (hK _ _ ⟨(by first | exact M.out | exact M.out.take 7), ?_⟩)
                    clear hK K
                    try simp only [Act.put, List.getElem_toArray, List.getElem_cons_succ, List.getElem_cons_zero, List.setIfInBounds_toArray, List.set_cons_succ, List.set_cons_zero]
                    apply takeH (i := 7) 16 rfl (by kernel_rfl) (by kernel_rfl) (by kernel_rfl) (fun _ _ _ h => h) rfl (by first | exact M.out | exact M.out.take 7)
                    case' hy =>
                      refine Or.inl ⟨by first | rfl | (go_simp; done), ?_⟩
                      intro w hS
                      clear hS
                      go_simp
                      try with_reducible rfl
                    try simp only [Act.put, List.getElem_toArray, List.getElem_cons_succ, List.getElem_cons_zero, List.setIfInBounds_toArray, List.set_cons_succ, List.set_cons_zero]
                    exact REST1 g48 g17 w_ M.out
                case hB =>
                  intro g48 g17 w_ m
                  have M := Lib.hid m
                  clear m
                  refine any1H 8 (by kernel_rfl) rfl (fun K hK => ?_)
                  go_wp2_with (first | ((with_reducible refine gate_store (x := .tmp 17) rfl ?_); go_must (first | (refine M.out.ev_stw 7 _ _ _ rfl rfl rfl rfl _ rfl (by first | rfl | (simp only [S1.out]; rfl) | (simp only [S1.out, S2.out]; rfl) | (simp only [S3.out]; rfl) | (simp only [S1.out, S2.out, S3.out]; rfl)) (by first | exact sz39 | (rw [S1.out]; exact sz39) | (rw [S2.out]; exact sz39) | (rw [S3.out]; exact sz39)) (by first | exact ints_one _ _ | exact Fld.one _ | exact O1.out | exact Cs.one _ | exact Net.one _ | exact Prices.one _ | rfl | (simp [Value.oneCell']; done)) rfl ?_) | (refine M.out.ev_stw 8 _ _ _ rfl rfl rfl rfl _ rfl (by first | rfl | (simp only [S1.out]; rfl) | (simp only [S1.out, S2.out]; rfl) | (simp only [S3.out]; rfl) | (simp only [S1.out, S2.out, S3.out]; rfl)) (by first | exact sz39 | (rw [S1.out]; exact sz39) | (rw [S2.out]; exact sz39) | (rw [S3.out]; exact sz39)) (by first | exact ints_one _ _ | exact Fld.one _ | exact O1.out | exact Cs.one _ | exact Net.one _ | exact Prices.one _ | rfl | (simp [Value.oneCell']; done)) rfl ?_)); intro wn m; simp only [List.set_cons_succ, List.set_cons_zero, List.setIfInBounds_toArray] at m; have M := Lib.hid m; clear m))
                  refine onward_normal (hK _ _ ⟨(by first | exact M.out | exact M.out.take 7), ?_⟩)
                  clear hK K
                  try simp only [Act.put, List.getElem_toArray, List.getElem_cons_succ, List.getElem_cons_zero, List.setIfInBounds_toArray, List.set_cons_succ, List.set_cons_zero]
                  exact REST0 g48 g17 wn M.out
              intro g48 g17 w_ m
              have M := Lib.hid m
              clear m M9
              refine wpAnyH_done (by kernel_rfl) ?_ _
              go_wp2
              go_loopw [16, 54] (fun u v wr => ∃ j : Nat, j ≤ ds.length ∧ v = .int .i64 j ∧ u = .int .i64 (a - dTo x c.all ds j) ∧ Mem w wr [.blk g3 35 F.cells, .blk g4 37 p.vals.toArray, .blk g5 39 c.cells, .row (.slice B ds.length cB) 2 1 ds.length (flat oneI ds), .row (.slice (some ⟨lb, loff, none⟩) c.all.length c_) 2 1 c.all.length (flat one64 c.all), .row (.slice (some ⟨nb, noff, none⟩) ns.length c2) 65 4 ns.length (flat Net.vals ns), .blk g15 65 x.vals.toArray, .blk g48 65 x.vals.toArray, .blk g17 39 (netSet x).cells])
                (fun _ v _ => ds.length - (intOf v).toNat)
              case atStart => exact ⟨0, by omega, rfl, by simp [dTo], M.out⟩
              case round =>
                clear M
                obtain ⟨j, hj, rfl, rfl, m⟩ := hrel
                have M := Lib.hid m
                clear m
                by_cases hjt : j < ds.length
                · obtain ⟨hjat, _, hj100⟩ := all_getD (c := c) (i := j) (by omega)
                  have HJAT := Lib.hid hjat
                  have HGI := Lib.hid (gi_at hjt)
                  obtain ⟨ob, ooff, rfl, _⟩ := (M.out.slof 3 rfl).2 (by omega)
                  have x1 := (M.out.slof 3 rfl).atI HGI.out
                  have x2 := (M.out.slof 4 rfl).at64 HJAT.out
                  have HDS := Lib.hid (show dTo x c.all ds (j + 1) = dTo x c.all ds j + if x.inside (c.all.getD j 0) = true then gi ds j else 0 from rfl)
                  have b1 := dTo_abs x c.all ds j
                  have b2 := dTo_abs x c.all ds (j + 1)
                  have b3 := aTo_mono ds j ds.length (by omega)
                  have b4 := aTo_mono ds (j + 1) ds.length (by omega)
                  have j0 : (0 : Int) ≤ (j : Int) := by omega
                  have j1 : (j : Int) < (ds.length : Int) := by omega
                  have j2 : (j : Int) < (c.all.length : Int) := by omega
                  have HHI := Lib.hid (show (netSet x).has (c.all.getD j 0) = x.inside (c.all.getD j 0) from pset_has _ hj100)
                  obtain ⟨z, hz⟩ : ∃ z, z = c.all.getD j 0 := ⟨_, rfl⟩
                  obtain ⟨y, hy⟩ : ∃ y, y = gi ds j := ⟨_, rfl⟩
                  rw [← hz] at HJAT HDS HHI hj100 x2
                  rw [← hy] at HGI HDS x1
                  clear hz hy hjat
                  cases hq : x.inside z
                  all_goals
                    have HQ := Lib.hid hq
                    rw [hq] at HHI
                    have hdd := HDS.out
                    rw [hq] at hdd
                    first
                      | rw [if_neg (by decide)] at hdd
                      | rw [if_pos rfl] at hdd
                    try have w1 : IntKind.i64.wrap (a - dTo x c.all ds j - y) = a - dTo x c.all ds j - y := IntWalk.i64_in _ (by omega)
                    have HDD := Lib.hid hdd
                    clear hdd
                    clear hq
                    go_wp2_with (first
                      | ((with_reducible refine gate_dst (N := 3) rfl ?_); go_must (refine M.out.ev_new rfl (by first | (go_simp; done) | (go_simp; rfl)) ?_); intro g3 w3 m; simp only [List.cons_append, List.nil_append] at m; have M := Lib.hid m; clear m)
                      | ((with_reducible refine gate_dst (N := 4) rfl ?_); go_must (refine M.out.ev_new rfl (by first | (go_simp; done) | (go_simp; rfl)) ?_); intro g4 w4 m; simp only [List.cons_append, List.nil_append] at m; have M := Lib.hid m; clear m)
                      | ((with_reducible refine gate_dst (N := 5) rfl ?_); go_must (refine M.out.ev_new rfl (by first | (go_simp; done) | (go_simp; rfl)) ?_); intro g5 w5 m; simp only [List.cons_append, List.nil_append] at m; have M := Lib.hid m; clear m)
                      | ((with_reducible refine gate_dst (N := 20) rfl ?_); go_must (refine M.out.ev_ldw 1 _ _ rfl rfl rfl Try.underlying37 rfl (by first | exact sz37 | (rw [S1.out]; exact sz37) | (rw [S2.out]; exact sz37) | (rw [S3.out]; exact sz37)) rfl ?_))
                      | ((with_reducible refine gate_dst (N := 21) rfl ?_); go_must (refine M.out.ev_ldw 2 _ _ rfl rfl rfl Try.underlying39 rfl (by first | exact sz39 | (rw [S1.out]; exact sz39) | (rw [S2.out]; exact sz39) | (rw [S3.out]; exact sz39)) rfl ?_))
                      | ((with_reducible refine gate_dst (N := 28) rfl ?_); go_must (refine M.out.ev_ldw 2 _ _ rfl rfl rfl Try.underlying39 rfl (by first | exact sz39 | (rw [S1.out]; exact sz39) | (rw [S2.out]; exact sz39) | (rw [S3.out]; exact sz39)) rfl ?_))
                      | ((with_reducible refine gate_dst (N := 31) rfl ?_); go_must (refine M.out.ev_ldw 2 _ _ rfl rfl rfl Try.underlying39 rfl (by first | exact sz39 | (rw [S1.out]; exact sz39) | (rw [S2.out]; exact sz39) | (rw [S3.out]; exact sz39)) rfl ?_))
                      | ((with_reducible refine gate_dst (N := 15) rfl ?_); go_must (refine M.out.ev_new rfl (by first | (go_simp; done) | (go_simp; rfl)) ?_); intro g15 w15 m; simp only [List.cons_append, List.nil_append] at m; have M := Lib.hid m; clear m)
                      | ((with_reducible refine gate_store (x := .tmp 15) rfl ?_); go_must (refine M.out.ev_stw 6 _ _ _ rfl rfl rfl rfl _ rfl (by first | rfl | (simp only [S1.out]; rfl) | (simp only [S1.out, S2.out]; rfl) | (simp only [S3.out]; rfl) | (simp only [S1.out, S2.out, S3.out]; rfl)) (by first | exact sz65 | (rw [S1.out]; exact sz65) | (rw [S2.out]; exact sz65) | (rw [S3.out]; exact sz65)) (by first | exact ints_one _ _ | exact Fld.one _ | exact O1.out | exact Cs.one _ | exact Net.one _ | exact Prices.one _ | rfl | (simp [Value.oneCell']; done)) rfl ?_); intro wn m; simp only [List.set_cons_succ, List.set_cons_zero, List.setIfInBounds_toArray] at m; have M := Lib.hid m; clear m)
                      | ((with_reducible refine gate_dst (N := 46) rfl ?_); go_must (refine M.out.ev_ldw 1 _ _ rfl rfl rfl Try.underlying37 rfl (by first | exact sz37 | (rw [S1.out]; exact sz37) | (rw [S2.out]; exact sz37) | (rw [S3.out]; exact sz37)) rfl ?_))
                      | ((with_reducible refine gate_dst (N := 47) rfl ?_); go_must (refine M.out.ev_ldw 6 _ _ rfl rfl rfl Try.underlying65 rfl (by first | exact sz65 | (rw [S1.out]; exact sz65) | (rw [S2.out]; exact sz65) | (rw [S3.out]; exact sz65)) rfl ?_))
                      | ((with_reducible refine gate_dst (N := 50) rfl ?_); go_must (refine M.out.ev_ldw 6 _ _ rfl rfl rfl Try.underlying65 rfl (by first | exact sz65 | (rw [S1.out]; exact sz65) | (rw [S2.out]; exact sz65) | (rw [S3.out]; exact sz65)) rfl ?_))
                      | ((with_reducible refine gate_dst (N := 17) rfl ?_); go_must (refine M.out.ev_new rfl (by first | (go_simp; done) | (go_simp; rfl)) ?_); intro g17 w17 m; simp only [List.cons_append, List.nil_append] at m; have M := Lib.hid m; clear m)
                      | ((with_reducible refine gate_store (x := .tmp 17) rfl ?_); go_must (refine M.out.ev_stw 8 _ _ _ rfl rfl rfl rfl _ rfl (by first | rfl | (simp only [S1.out]; rfl) | (simp only [S1.out, S2.out]; rfl) | (simp only [S3.out]; rfl) | (simp only [S1.out, S2.out, S3.out]; rfl)) (by first | exact sz39 | (rw [S1.out]; exact sz39) | (rw [S2.out]; exact sz39) | (rw [S3.out]; exact sz39)) (by first | exact ints_one _ _ | exact Fld.one _ | exact O1.out | exact Cs.one _ | exact Net.one _ | exact Prices.one _ | rfl | (simp [Value.oneCell']; done)) rfl ?_); intro wn m; simp only [List.set_cons_succ, List.set_cons_zero, List.setIfInBounds_toArray] at m; have M := Lib.hid m; clear m)
                      | ((with_reducible refine gate_dst (N := 59) rfl ?_); go_must (refine M.out.ev_ldw 8 _ _ rfl rfl rfl Try.underlying39 rfl (by first | exact sz39 | (rw [S1.out]; exact sz39) | (rw [S2.out]; exact sz39) | (rw [S3.out]; exact sz39)) rfl ?_))
                      )
                    refine region_anyH (fun w' => Mem w w' [.blk g3 35 F.cells, .blk g4 37 p.vals.toArray, .blk g5 39 c.cells, .row (.slice (some ⟨ob, ooff, none⟩) ds.length cB) 2 1 ds.length (flat oneI ds), .row (.slice (some ⟨lb, loff, none⟩) c.all.length c_) 2 1 c.all.length (flat one64 c.all), .row (.slice (some ⟨nb, noff, none⟩) ns.length c2) 65 4 ns.length (flat Net.vals ns), .blk g15 65 x.vals.toArray, .blk g48 65 x.vals.toArray, .blk g17 39 (netSet x).cells]) (by kernel_rfl) ?_
                    have m := M.out.drew
                    clear M
                    have M := Lib.hid m
                    clear m
                    apply takeH (i := 0) 59 rfl (by kernel_rfl) (by kernel_rfl) (by kernel_rfl) (fun _ _ _ h => h) rfl (by first | exact M.out | exact M.out.take 9)
                    case' hy => exact yldw _ _ rfl rfl Try.underlying39 rfl (by first | exact sz39 | (rw [S1.out]; exact sz39) | (rw [S2.out]; exact sz39) | (rw [S3.out]; exact sz39)) rfl (fun w' hS => hS.blk 8 rfl)
                    try simp only [Act.put, List.getElem_toArray, List.getElem_cons_succ, List.getElem_cons_zero, List.setIfInBounds_toArray, List.set_cons_succ, List.set_cons_zero]
                    apply takeH (i := 1) 60 rfl (by kernel_rfl) (by kernel_rfl) (by kernel_rfl) (fun _ _ _ h => h) rfl (by first | exact M.out | exact M.out.take 9)
                    case' hy =>
                      refine Or.inl ⟨by first | rfl | (go_simp; done), ?_⟩
                      intro w hS
                      clear hS
                      go_simp
                      try with_reducible rfl
                    try simp only [Act.put, List.getElem_toArray, List.getElem_cons_succ, List.getElem_cons_zero, List.setIfInBounds_toArray, List.set_cons_succ, List.set_cons_zero]
                    apply takeH (i := 2) 61 rfl (by kernel_rfl) (by kernel_rfl) (by kernel_rfl) (fun _ _ _ h => h) rfl (by first | exact M.out | exact M.out.take 9)
                    case' hy =>
                      refine Or.inl ⟨by first | rfl | (go_simp; done), ?_⟩
                      intro w hS
                      clear hS
                      go_simp
                      try with_reducible rfl
                    try simp only [Act.put, List.getElem_toArray, List.getElem_cons_succ, List.getElem_cons_zero, List.setIfInBounds_toArray, List.set_cons_succ, List.set_cons_zero]
                    apply takeH (i := 3) 62 rfl (by kernel_rfl) (by kernel_rfl) (by kernel_rfl) (fun _ _ _ h => h) rfl (by first | exact M.out | exact M.out.take 9)
                    case' hy =>
                      refine Or.inl ⟨by first | rfl | (go_simp; done), ?_⟩
                      intro w hS
                      clear hS
                      go_simp
                      try with_reducible rfl
                    try simp only [Act.put, List.getElem_toArray, List.getElem_cons_succ, List.getElem_cons_zero, List.setIfInBounds_toArray, List.set_cons_succ, List.set_cons_zero]
                    apply takeH (i := 4) 63 rfl (by kernel_rfl) (by kernel_rfl) (by kernel_rfl) (fun _ _ _ h => h) rfl (by first | exact M.out | exact M.out.take 9)
                    case' hy => exact ylds _ _ rfl rfl Try.underlying2 rfl rfl (fun w' hS => (hS.slof 4 rfl).at64 HJAT.out)
                    try simp only [Act.put, List.getElem_toArray, List.getElem_cons_succ, List.getElem_cons_zero, List.setIfInBounds_toArray, List.set_cons_succ, List.set_cons_zero]
                    refine any1H 5 (by kernel_rfl) rfl (fun K hK => ?_)
                    go_wp2_with (first | ((with_reducible refine gate_dst (N := 59) rfl ?_); go_must (refine M.out.ev_ldw 8 _ _ rfl rfl rfl Try.underlying39 rfl (by first | exact sz39 | (rw [S1.out]; exact sz39) | (rw [S2.out]; exact sz39) | (rw [S3.out]; exact sz39)) rfl ?_)) | (go_at_call 56; go_must (refine (HasCell_any _ CO.out z hj100 _).mono ?_); rintro e w_ ⟨rfl, N_⟩; have m := M.out.join N_; clear N_; simp only [List.cons_append, List.nil_append, List.append_nil] at m; have M := Lib.hid m; clear m; rw [HHI.out]))
                    refine onward_normal (hK _ _ ⟨(by first | exact M.out | exact M.out.take 9), ?_⟩)
                    clear hK K
                    try simp only [Act.put, List.getElem_toArray, List.getElem_cons_succ, List.getElem_cons_zero, List.setIfInBounds_toArray, List.set_cons_succ, List.set_cons_zero]
                    refine wpAnyH_done (by kernel_rfl) ?_ _
                    all_goals
                      go_wp2
                      exact ⟨⟨j + 1, by omega, by go_num, by rw [HDD.out]; congr 1; omega, M.out⟩, by simp [intOf]; try omega⟩
                · obtain rfl : j = ds.length := by omega
                  rw [← HOW.out]
                  have HDS2 := HFS.out
                  unfold dStep at HDS2
                  by_cases z1 : d0 < 0 <;> by_cases z2 : ow < d0
                  all_goals
                    first
                      | rw [decide_eq_true z1, Bool.true_or, if_pos rfl] at HDS2
                      | rw [decide_eq_true z2, Bool.or_true, if_pos rfl] at HDS2
                      | rw [decide_eq_false z1, decide_eq_false z2, Bool.or_false, if_neg (by decide)] at HDS2
                    have HDS2 := Lib.hid HDS2
                    go_wp2
                    exact ⟨⟨i + 1, by omega, by go_num, by rw [HDS2.out], M.out.take 6⟩, by simp [intOf]; try omega⟩
            · obtain rfl : i = ns.length := by omega
              have q1 : ¬ ((ns.length : Int) < (ns.length : Int)) := by omega
              obtain ⟨d0, hd0⟩ : ∃ d0, d0 = dFold p c.all ds ns ns.length := ⟨_, rfl⟩
              rw [← hd0] at HDU
              rw [← hd0]
              clear hd0
              go_wp2_with (first
                | ((with_reducible refine gate_dst (N := 3) rfl ?_); go_must (refine M.out.ev_new rfl (by first | (go_simp; done) | (go_simp; rfl)) ?_); intro g3 w3 m; simp only [List.cons_append, List.nil_append] at m; have M := Lib.hid m; clear m)
                | ((with_reducible refine gate_dst (N := 4) rfl ?_); go_must (refine M.out.ev_new rfl (by first | (go_simp; done) | (go_simp; rfl)) ?_); intro g4 w4 m; simp only [List.cons_append, List.nil_append] at m; have M := Lib.hid m; clear m)
                | ((with_reducible refine gate_dst (N := 5) rfl ?_); go_must (refine M.out.ev_new rfl (by first | (go_simp; done) | (go_simp; rfl)) ?_); intro g5 w5 m; simp only [List.cons_append, List.nil_append] at m; have M := Lib.hid m; clear m)
                | ((with_reducible refine gate_dst (N := 20) rfl ?_); go_must (refine M.out.ev_ldw 1 _ _ rfl rfl rfl Try.underlying37 rfl (by first | exact sz37 | (rw [S1.out]; exact sz37) | (rw [S2.out]; exact sz37) | (rw [S3.out]; exact sz37)) rfl ?_))
                | ((with_reducible refine gate_dst (N := 21) rfl ?_); go_must (refine M.out.ev_ldw 2 _ _ rfl rfl rfl Try.underlying39 rfl (by first | exact sz39 | (rw [S1.out]; exact sz39) | (rw [S2.out]; exact sz39) | (rw [S3.out]; exact sz39)) rfl ?_))
                | ((with_reducible refine gate_dst (N := 28) rfl ?_); go_must (refine M.out.ev_ldw 2 _ _ rfl rfl rfl Try.underlying39 rfl (by first | exact sz39 | (rw [S1.out]; exact sz39) | (rw [S2.out]; exact sz39) | (rw [S3.out]; exact sz39)) rfl ?_))
                | ((with_reducible refine gate_dst (N := 31) rfl ?_); go_must (refine M.out.ev_ldw 2 _ _ rfl rfl rfl Try.underlying39 rfl (by first | exact sz39 | (rw [S1.out]; exact sz39) | (rw [S2.out]; exact sz39) | (rw [S3.out]; exact sz39)) rfl ?_))
                | ((with_reducible refine gate_dst (N := 15) rfl ?_); go_must (refine M.out.ev_new rfl (by first | (go_simp; done) | (go_simp; rfl)) ?_); intro g15 w15 m; simp only [List.cons_append, List.nil_append] at m; have M := Lib.hid m; clear m)
                | ((with_reducible refine gate_store (x := .tmp 15) rfl ?_); go_must (refine M.out.ev_stw 6 _ _ _ rfl rfl rfl rfl _ rfl (by first | rfl | (simp only [S1.out]; rfl) | (simp only [S1.out, S2.out]; rfl) | (simp only [S3.out]; rfl) | (simp only [S1.out, S2.out, S3.out]; rfl)) (by first | exact sz65 | (rw [S1.out]; exact sz65) | (rw [S2.out]; exact sz65) | (rw [S3.out]; exact sz65)) (by first | exact ints_one _ _ | exact Fld.one _ | exact O1.out | exact Cs.one _ | exact Net.one _ | exact Prices.one _ | rfl | (simp [Value.oneCell']; done)) rfl ?_); intro wn m; simp only [List.set_cons_succ, List.set_cons_zero, List.setIfInBounds_toArray] at m; have M := Lib.hid m; clear m)
                | ((with_reducible refine gate_dst (N := 46) rfl ?_); go_must (refine M.out.ev_ldw 1 _ _ rfl rfl rfl Try.underlying37 rfl (by first | exact sz37 | (rw [S1.out]; exact sz37) | (rw [S2.out]; exact sz37) | (rw [S3.out]; exact sz37)) rfl ?_))
                | ((with_reducible refine gate_dst (N := 47) rfl ?_); go_must (refine M.out.ev_ldw 6 _ _ rfl rfl rfl Try.underlying65 rfl (by first | exact sz65 | (rw [S1.out]; exact sz65) | (rw [S2.out]; exact sz65) | (rw [S3.out]; exact sz65)) rfl ?_))
                | ((with_reducible refine gate_dst (N := 50) rfl ?_); go_must (refine M.out.ev_ldw 6 _ _ rfl rfl rfl Try.underlying65 rfl (by first | exact sz65 | (rw [S1.out]; exact sz65) | (rw [S2.out]; exact sz65) | (rw [S3.out]; exact sz65)) rfl ?_))
                | ((with_reducible refine gate_dst (N := 17) rfl ?_); go_must (refine M.out.ev_new rfl (by first | (go_simp; done) | (go_simp; rfl)) ?_); intro g17 w17 m; simp only [List.cons_append, List.nil_append] at m; have M := Lib.hid m; clear m)
                | ((with_reducible refine gate_store (x := .tmp 17) rfl ?_); go_must (refine M.out.ev_stw 8 _ _ _ rfl rfl rfl rfl _ rfl (by first | rfl | (simp only [S1.out]; rfl) | (simp only [S1.out, S2.out]; rfl) | (simp only [S3.out]; rfl) | (simp only [S1.out, S2.out, S3.out]; rfl)) (by first | exact sz39 | (rw [S1.out]; exact sz39) | (rw [S2.out]; exact sz39) | (rw [S3.out]; exact sz39)) (by first | exact ints_one _ _ | exact Fld.one _ | exact O1.out | exact Cs.one _ | exact Net.one _ | exact Prices.one _ | rfl | (simp [Value.oneCell']; done)) rfl ?_); intro wn m; simp only [List.set_cons_succ, List.set_cons_zero, List.setIfInBounds_toArray] at m; have M := Lib.hid m; clear m)
                | ((with_reducible refine gate_dst (N := 59) rfl ?_); go_must (refine M.out.ev_ldw 8 _ _ rfl rfl rfl Try.underlying39 rfl (by first | exact sz39 | (rw [S1.out]; exact sz39) | (rw [S2.out]; exact sz39) | (rw [S3.out]; exact sz39)) rfl ?_))
                | ((with_reducible refine gate_dst (N := 80) rfl ?_); go_must (refine M.out.ev_bs1 elem_int64 rfl _ rfl #[.int .i64 d0] rfl rfl (by decide) ?_); intro g80 w80 m; simp only [List.cons_append, List.nil_append] at m; have M := Lib.hid m; clear m)
                | ((with_reducible refine gate_dst (N := 81) rfl ?_); go_must (refine M.out.ev_append1 3 6 elem_int64 rfl _ _ rfl rfl rfl rfl rfl rfl (by simp [Value.oneCell']) (by omega) (by decide) ?_); intro v81 w81 m; simp only [List.set_cons_succ, List.set_cons_zero] at m; have M := Lib.hid m; clear m)
                )
              have mm := M.out.take 5
              obtain ⟨B2, cB2, rfl, hcB2, _⟩ := mm.row_slice 3 rfl
              refine ⟨⟨t + 1, by omega, by simp [lenOf]; try omega, by go_num, ?_⟩, by simp [intOf]; try omega⟩
              rw [HDU.out, flat_snoc, List.length_append]
              exact mm
        · obtain rfl : t = c.all.length := by omega
          have i1 : ¬ ((c.all.length : Int) < (c.all.length : Int)) := by omega
          go_wp2
          go_ret2
          rw [HR.out, HC.out]
          exact ⟨_, _, rfl, hcB, M.out.only [3] (K := [_]) rfl (by decide)⟩
    · have HW := Lib.hid hw
      have HR := Lib.hid (show duRes F p c = [] by rw [duRes, if_pos hk, hw]; rfl)
      have HC := Lib.hid (show gCode F p c = 4 by rw [gCode, if_pos hk, hw]; rfl)
      clear hk h1 hw hin
      go_enter Try.func17, Try.ntmps17
      go_wp2_with (first
        | ((with_reducible refine gate_dst (N := 3) rfl ?_); go_must (refine M.out.ev_new rfl (by first | (go_simp; done) | (go_simp; rfl)) ?_); intro g3 w3 m; simp only [List.cons_append, List.nil_append] at m; have M := Lib.hid m; clear m)
        | ((with_reducible refine gate_dst (N := 4) rfl ?_); go_must (refine M.out.ev_new rfl (by first | (go_simp; done) | (go_simp; rfl)) ?_); intro g4 w4 m; simp only [List.cons_append, List.nil_append] at m; have M := Lib.hid m; clear m)
        | ((with_reducible refine gate_dst (N := 5) rfl ?_); go_must (refine M.out.ev_new rfl (by first | (go_simp; done) | (go_simp; rfl)) ?_); intro g5 w5 m; simp only [List.cons_append, List.nil_append] at m; have M := Lib.hid m; clear m)
        | ((with_reducible refine gate_dst (N := 20) rfl ?_); go_must (refine M.out.ev_ldw 1 _ _ rfl rfl rfl Try.underlying37 rfl (by first | exact sz37 | (rw [S1.out]; exact sz37) | (rw [S2.out]; exact sz37) | (rw [S3.out]; exact sz37)) rfl ?_))
        | ((with_reducible refine gate_dst (N := 21) rfl ?_); go_must (refine M.out.ev_ldw 2 _ _ rfl rfl rfl Try.underlying39 rfl (by first | exact sz39 | (rw [S1.out]; exact sz39) | (rw [S2.out]; exact sz39) | (rw [S3.out]; exact sz39)) rfl ?_))
        | ((with_reducible refine gate_dst (N := 28) rfl ?_); go_must (refine M.out.ev_ldw 2 _ _ rfl rfl rfl Try.underlying39 rfl (by first | exact sz39 | (rw [S1.out]; exact sz39) | (rw [S2.out]; exact sz39) | (rw [S3.out]; exact sz39)) rfl ?_))
        | ((with_reducible refine gate_dst (N := 31) rfl ?_); go_must (refine M.out.ev_ldw 2 _ _ rfl rfl rfl Try.underlying39 rfl (by first | exact sz39 | (rw [S1.out]; exact sz39) | (rw [S2.out]; exact sz39) | (rw [S3.out]; exact sz39)) rfl ?_))
        | ((with_reducible refine gate_dst (N := 15) rfl ?_); go_must (refine M.out.ev_new rfl (by first | (go_simp; done) | (go_simp; rfl)) ?_); intro g15 w15 m; simp only [List.cons_append, List.nil_append] at m; have M := Lib.hid m; clear m)
        | ((with_reducible refine gate_store (x := .tmp 15) rfl ?_); go_must (refine M.out.ev_stw 6 _ _ _ rfl rfl rfl rfl _ rfl (by first | rfl | (simp only [S1.out]; rfl) | (simp only [S1.out, S2.out]; rfl) | (simp only [S3.out]; rfl) | (simp only [S1.out, S2.out, S3.out]; rfl)) (by first | exact sz65 | (rw [S1.out]; exact sz65) | (rw [S2.out]; exact sz65) | (rw [S3.out]; exact sz65)) (by first | exact ints_one _ _ | exact Fld.one _ | exact O1.out | exact Cs.one _ | exact Net.one _ | exact Prices.one _ | rfl | (simp [Value.oneCell']; done)) rfl ?_); intro wn m; simp only [List.set_cons_succ, List.set_cons_zero, List.setIfInBounds_toArray] at m; have M := Lib.hid m; clear m)
        | ((with_reducible refine gate_dst (N := 46) rfl ?_); go_must (refine M.out.ev_ldw 1 _ _ rfl rfl rfl Try.underlying37 rfl (by first | exact sz37 | (rw [S1.out]; exact sz37) | (rw [S2.out]; exact sz37) | (rw [S3.out]; exact sz37)) rfl ?_))
        | ((with_reducible refine gate_dst (N := 47) rfl ?_); go_must (refine M.out.ev_ldw 6 _ _ rfl rfl rfl Try.underlying65 rfl (by first | exact sz65 | (rw [S1.out]; exact sz65) | (rw [S2.out]; exact sz65) | (rw [S3.out]; exact sz65)) rfl ?_))
        | ((with_reducible refine gate_dst (N := 50) rfl ?_); go_must (refine M.out.ev_ldw 6 _ _ rfl rfl rfl Try.underlying65 rfl (by first | exact sz65 | (rw [S1.out]; exact sz65) | (rw [S2.out]; exact sz65) | (rw [S3.out]; exact sz65)) rfl ?_))
        | ((with_reducible refine gate_dst (N := 17) rfl ?_); go_must (refine M.out.ev_new rfl (by first | (go_simp; done) | (go_simp; rfl)) ?_); intro g17 w17 m; simp only [List.cons_append, List.nil_append] at m; have M := Lib.hid m; clear m)
        | ((with_reducible refine gate_store (x := .tmp 17) rfl ?_); go_must (refine M.out.ev_stw 8 _ _ _ rfl rfl rfl rfl _ rfl (by first | rfl | (simp only [S1.out]; rfl) | (simp only [S1.out, S2.out]; rfl) | (simp only [S3.out]; rfl) | (simp only [S1.out, S2.out, S3.out]; rfl)) (by first | exact sz39 | (rw [S1.out]; exact sz39) | (rw [S2.out]; exact sz39) | (rw [S3.out]; exact sz39)) (by first | exact ints_one _ _ | exact Fld.one _ | exact O1.out | exact Cs.one _ | exact Net.one _ | exact Prices.one _ | rfl | (simp [Value.oneCell']; done)) rfl ?_); intro wn m; simp only [List.set_cons_succ, List.set_cons_zero, List.setIfInBounds_toArray] at m; have M := Lib.hid m; clear m)
        | ((with_reducible refine gate_dst (N := 59) rfl ?_); go_must (refine M.out.ev_ldw 8 _ _ rfl rfl rfl Try.underlying39 rfl (by first | exact sz39 | (rw [S1.out]; exact sz39) | (rw [S2.out]; exact sz39) | (rw [S3.out]; exact sz39)) rfl ?_))
        | (go_at_call 41; go_must (refine (pricesNil_any g3 F HF.out p hp c hc _ (M.out.blk 0 rfl)).mono ?_); rintro e w_ ⟨rfl, N_⟩; have m := M.out.join N_; clear N_; simp only [List.cons_append, List.nil_append, List.append_nil] at m; have M := Lib.hid m; clear m; rw [HK.out])
        | (go_at_call 43; go_must (refine (haveTree_any g3 F HF.out c hc HIN.out _ (M.out.blk 0 rfl)).mono ?_); rintro e w_ ⟨rfl, N_⟩; have m := M.out.join N_; clear N_; simp only [List.cons_append, List.nil_append, List.append_nil] at m; have M := Lib.hid m; clear m; rw [HW.out])
        )
      go_ret2
      rw [HR.out, HC.out]
      exact ⟨none, 0, rfl, by simp, (M.out.take 0).nilrow _ _⟩
  · obtain ⟨d, hd⟩ : ∃ d, d = prCode F p [] c := ⟨_, rfl⟩
    have HR := Lib.hid (show duRes F p c = [] by rw [duRes, if_neg hk])
    have HC := Lib.hid (show gCode F p c = d by rw [gCode, if_neg hk, hd])
    have HD := Lib.hid hd
    rw [← hd] at hk
    clear hd
    go_enter Try.func17, Try.ntmps17
    go_wp2_with (first
      | ((with_reducible refine gate_dst (N := 3) rfl ?_); go_must (refine M.out.ev_new rfl (by first | (go_simp; done) | (go_simp; rfl)) ?_); intro g3 w3 m; simp only [List.cons_append, List.nil_append] at m; have M := Lib.hid m; clear m)
      | ((with_reducible refine gate_dst (N := 4) rfl ?_); go_must (refine M.out.ev_new rfl (by first | (go_simp; done) | (go_simp; rfl)) ?_); intro g4 w4 m; simp only [List.cons_append, List.nil_append] at m; have M := Lib.hid m; clear m)
      | ((with_reducible refine gate_dst (N := 5) rfl ?_); go_must (refine M.out.ev_new rfl (by first | (go_simp; done) | (go_simp; rfl)) ?_); intro g5 w5 m; simp only [List.cons_append, List.nil_append] at m; have M := Lib.hid m; clear m)
      | ((with_reducible refine gate_dst (N := 20) rfl ?_); go_must (refine M.out.ev_ldw 1 _ _ rfl rfl rfl Try.underlying37 rfl (by first | exact sz37 | (rw [S1.out]; exact sz37) | (rw [S2.out]; exact sz37) | (rw [S3.out]; exact sz37)) rfl ?_))
      | ((with_reducible refine gate_dst (N := 21) rfl ?_); go_must (refine M.out.ev_ldw 2 _ _ rfl rfl rfl Try.underlying39 rfl (by first | exact sz39 | (rw [S1.out]; exact sz39) | (rw [S2.out]; exact sz39) | (rw [S3.out]; exact sz39)) rfl ?_))
      | ((with_reducible refine gate_dst (N := 28) rfl ?_); go_must (refine M.out.ev_ldw 2 _ _ rfl rfl rfl Try.underlying39 rfl (by first | exact sz39 | (rw [S1.out]; exact sz39) | (rw [S2.out]; exact sz39) | (rw [S3.out]; exact sz39)) rfl ?_))
      | ((with_reducible refine gate_dst (N := 31) rfl ?_); go_must (refine M.out.ev_ldw 2 _ _ rfl rfl rfl Try.underlying39 rfl (by first | exact sz39 | (rw [S1.out]; exact sz39) | (rw [S2.out]; exact sz39) | (rw [S3.out]; exact sz39)) rfl ?_))
      | ((with_reducible refine gate_dst (N := 15) rfl ?_); go_must (refine M.out.ev_new rfl (by first | (go_simp; done) | (go_simp; rfl)) ?_); intro g15 w15 m; simp only [List.cons_append, List.nil_append] at m; have M := Lib.hid m; clear m)
      | ((with_reducible refine gate_store (x := .tmp 15) rfl ?_); go_must (refine M.out.ev_stw 6 _ _ _ rfl rfl rfl rfl _ rfl (by first | rfl | (simp only [S1.out]; rfl) | (simp only [S1.out, S2.out]; rfl) | (simp only [S3.out]; rfl) | (simp only [S1.out, S2.out, S3.out]; rfl)) (by first | exact sz65 | (rw [S1.out]; exact sz65) | (rw [S2.out]; exact sz65) | (rw [S3.out]; exact sz65)) (by first | exact ints_one _ _ | exact Fld.one _ | exact O1.out | exact Cs.one _ | exact Net.one _ | exact Prices.one _ | rfl | (simp [Value.oneCell']; done)) rfl ?_); intro wn m; simp only [List.set_cons_succ, List.set_cons_zero, List.setIfInBounds_toArray] at m; have M := Lib.hid m; clear m)
      | ((with_reducible refine gate_dst (N := 46) rfl ?_); go_must (refine M.out.ev_ldw 1 _ _ rfl rfl rfl Try.underlying37 rfl (by first | exact sz37 | (rw [S1.out]; exact sz37) | (rw [S2.out]; exact sz37) | (rw [S3.out]; exact sz37)) rfl ?_))
      | ((with_reducible refine gate_dst (N := 47) rfl ?_); go_must (refine M.out.ev_ldw 6 _ _ rfl rfl rfl Try.underlying65 rfl (by first | exact sz65 | (rw [S1.out]; exact sz65) | (rw [S2.out]; exact sz65) | (rw [S3.out]; exact sz65)) rfl ?_))
      | ((with_reducible refine gate_dst (N := 50) rfl ?_); go_must (refine M.out.ev_ldw 6 _ _ rfl rfl rfl Try.underlying65 rfl (by first | exact sz65 | (rw [S1.out]; exact sz65) | (rw [S2.out]; exact sz65) | (rw [S3.out]; exact sz65)) rfl ?_))
      | ((with_reducible refine gate_dst (N := 17) rfl ?_); go_must (refine M.out.ev_new rfl (by first | (go_simp; done) | (go_simp; rfl)) ?_); intro g17 w17 m; simp only [List.cons_append, List.nil_append] at m; have M := Lib.hid m; clear m)
      | ((with_reducible refine gate_store (x := .tmp 17) rfl ?_); go_must (refine M.out.ev_stw 8 _ _ _ rfl rfl rfl rfl _ rfl (by first | rfl | (simp only [S1.out]; rfl) | (simp only [S1.out, S2.out]; rfl) | (simp only [S3.out]; rfl) | (simp only [S1.out, S2.out, S3.out]; rfl)) (by first | exact sz39 | (rw [S1.out]; exact sz39) | (rw [S2.out]; exact sz39) | (rw [S3.out]; exact sz39)) (by first | exact ints_one _ _ | exact Fld.one _ | exact O1.out | exact Cs.one _ | exact Net.one _ | exact Prices.one _ | rfl | (simp [Value.oneCell']; done)) rfl ?_); intro wn m; simp only [List.set_cons_succ, List.set_cons_zero, List.setIfInBounds_toArray] at m; have M := Lib.hid m; clear m)
      | ((with_reducible refine gate_dst (N := 59) rfl ?_); go_must (refine M.out.ev_ldw 8 _ _ rfl rfl rfl Try.underlying39 rfl (by first | exact sz39 | (rw [S1.out]; exact sz39) | (rw [S2.out]; exact sz39) | (rw [S3.out]; exact sz39)) rfl ?_))
      | (go_at_call 41; go_must (refine (pricesNil_any g3 F HF.out p hp c hc _ (M.out.blk 0 rfl)).mono ?_); rintro e w_ ⟨rfl, N_⟩; have m := M.out.join N_; clear N_; simp only [List.cons_append, List.nil_append, List.append_nil] at m; have M := Lib.hid m; clear m; rw [← HD.out])
      )
    go_ret2
    rw [HR.out, HC.out]
    exact ⟨none, 0, rfl, by simp, (M.out.take 0).nilrow _ _⟩
end Go.Proofs.Ytjkclggdaafmaaa
