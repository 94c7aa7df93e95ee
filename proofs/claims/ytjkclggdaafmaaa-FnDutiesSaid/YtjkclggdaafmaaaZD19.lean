/- Texts of a proof, laid together: DutyS. -/
import Derived.Test.YtjkclggdaafmaaaZD18
import Derived.Test.YtjkclggdaafmaaaZD13
import Derived.Test.YtjkclggdaafmaaaZD03
import Derived.Test.YtjkclggdaafmaaaZD02
namespace Go.Proofs.Ytjkclggdaafmaaa
set_option linter.unusedSimpArgs false
set_option linter.unusedVariables false
open Go.RowKit
attribute [local go_sem] cell?_mk frozen?_mk
--ONES exact Cs.one _ | exact Net.one _ | exact Prices.one _
set_option maxRecDepth 100000 in
set_option maxHeartbeats 4000000 in
theorem l04Duties_any (x : Net) (hx : x.ok) (c : Cs) (A B : Option Addr) (na nb : Nat) (ds : List Int) (hl : ds.length ≤ c.all.length) (hb : ∀ i, i ≤ ds.length → -1000000000000000 ≤ dTo x c.all ds i ∧ dTo x c.all ds i ≤ 1000000000000000) (w : World) (hs : Sl w 1 A c.all.length (flat one64 c.all)) (ht : Sl w 1 B ds.length (flat oneI ds)) :
    Calls Try.prog 57 #[.agg x.vals.toArray, .slice A c.all.length na, .slice B ds.length nb] w fun e w' => e = .returned (.int .i64 (dTo x c.all ds ds.length)) ∧ Mem w w' [] := by
  have M := Lib.hid (Mem.start w)
  have HS := Lib.hid hs
  have HT := Lib.hid ht
  have HB := Lib.hid hb
  have hcl : c.all.length ≤ 100 := c.below_len 100
  clear hs ht hb
  go_enter Try.func57, Try.ntmps57
  go_wp2_with (first
    | ((with_reducible refine gate_dst (N := 3) rfl ?_); go_must (refine M.out.ev_new rfl (by first | (go_simp; done) | (go_simp; rfl)) ?_); intro g3 w3 m; simp only [List.cons_append, List.nil_append] at m; have M := Lib.hid m; clear m)
    | ((with_reducible refine gate_dst (N := 15) rfl ?_); go_must (refine M.out.ev_ldw 0 _ _ rfl rfl rfl Try.underlying65 rfl (by first | exact sz65 | (rw [S1.out]; exact sz65) | (rw [S2.out]; exact sz65) | (rw [S3.out]; exact sz65)) rfl ?_))
    )
  go_loopw [7, 8] (fun u v wr => ∃ j : Nat, j ≤ ds.length ∧ v = .int .i64 j ∧ u = .int .i64 (dTo x c.all ds j) ∧ Mem w wr [.blk g3 65 x.vals.toArray])
    (fun _ v _ => ds.length - (intOf v).toNat)
  case atStart => exact ⟨0, by omega, rfl, rfl, M.out⟩
  case round =>
    clear M
    obtain ⟨j, hj, rfl, rfl, m⟩ := hrel
    have M := Lib.hid m
    clear m
    by_cases hjt : j < ds.length
    · obtain ⟨hjat, _, hj100⟩ := all_getD (c := c) (i := j) (by omega)
      have HJAT := Lib.hid hjat
      have HGI := Lib.hid (gi_at hjt)
      obtain ⟨ob, ooff, rfl, _⟩ := HT.out.2 (by omega)
      obtain ⟨lb, loff, rfl, _⟩ := HS.out.2 (by omega)
      have x1 := (M.out.sl HT.out).atI HGI.out
      have x2 := (M.out.sl HS.out).at64 HJAT.out
      have HDS := Lib.hid (show dTo x c.all ds (j + 1) = dTo x c.all ds j + if x.inside (c.all.getD j 0) = true then gi ds j else 0 from rfl)
      have b2 := HB.out (j + 1) (by omega)
      have j0 : (0 : Int) ≤ (j : Int) := by omega
      have j1 : (j : Int) < (ds.length : Int) := by omega
      have j2 : (j : Int) < (c.all.length : Int) := by omega
      obtain ⟨z, hz⟩ : ∃ z, z = c.all.getD j 0 := ⟨_, rfl⟩
      obtain ⟨y, hy⟩ : ∃ y, y = gi ds j := ⟨_, rfl⟩
      rw [← hz] at HJAT HDS hj100 x2
      rw [← hy] at HGI HDS x1
      clear hz hy hjat
      cases hq : x.inside z
      all_goals
        have HQ := Lib.hid hq
        have hdd := HDS.out
        rw [hq] at hdd
        first
          | rw [if_neg (by decide)] at hdd
          | rw [if_pos rfl] at hdd
        try have w1 : IntKind.i64.wrap (dTo x c.all ds j + y) = dTo x c.all ds j + y := IntWalk.i64_in _ (by omega)
        have HDD := Lib.hid hdd
        clear hdd hq
        go_wp2
        refine region_anyH (fun w' => Mem w w' [.blk g3 65 x.vals.toArray]) (by kernel_rfl) ?_
        have m := M.out.drew
        clear M
        have M := Lib.hid m
        clear m
        apply takeH (i := 0) 15 rfl (by kernel_rfl) (by kernel_rfl) (by kernel_rfl) (fun _ _ _ h => h) rfl (by first | exact M.out | exact M.out.take 1)
        case' hy => exact yldw _ _ rfl rfl Try.underlying65 rfl (by first | exact sz65 | (rw [S1.out]; exact sz65) | (rw [S2.out]; exact sz65) | (rw [S3.out]; exact sz65)) rfl (fun w' hS => hS.blk 0 rfl)
        try simp only [Act.put, List.getElem_toArray, List.getElem_cons_succ, List.getElem_cons_zero, List.setIfInBounds_toArray, List.set_cons_succ, List.set_cons_zero]
        apply takeH (i := 1) 16 rfl (by kernel_rfl) (by kernel_rfl) (by kernel_rfl) (fun _ _ _ h => h) rfl (by first | exact M.out | exact M.out.take 1)
        case' hy =>
          refine Or.inl ⟨by first | rfl | (go_simp; done), ?_⟩
          intro w hS
          clear hS
          go_simp
          try with_reducible rfl
        try simp only [Act.put, List.getElem_toArray, List.getElem_cons_succ, List.getElem_cons_zero, List.setIfInBounds_toArray, List.set_cons_succ, List.set_cons_zero]
        apply takeH (i := 2) 17 rfl (by kernel_rfl) (by kernel_rfl) (by kernel_rfl) (fun _ _ _ h => h) rfl (by first | exact M.out | exact M.out.take 1)
        case' hy =>
          refine Or.inl ⟨by first | rfl | (go_simp; done), ?_⟩
          intro w hS
          clear hS
          go_simp
          try with_reducible rfl
        try simp only [Act.put, List.getElem_toArray, List.getElem_cons_succ, List.getElem_cons_zero, List.setIfInBounds_toArray, List.set_cons_succ, List.set_cons_zero]
        apply takeH (i := 3) 18 rfl (by kernel_rfl) (by kernel_rfl) (by kernel_rfl) (fun _ _ _ h => h) rfl (by first | exact M.out | exact M.out.take 1)
        case' hy =>
          refine Or.inl ⟨by first | rfl | (go_simp; done), ?_⟩
          intro w hS
          clear hS
          go_simp
          try with_reducible rfl
        try simp only [Act.put, List.getElem_toArray, List.getElem_cons_succ, List.getElem_cons_zero, List.setIfInBounds_toArray, List.set_cons_succ, List.set_cons_zero]
        apply takeH (i := 4) 19 rfl (by kernel_rfl) (by kernel_rfl) (by kernel_rfl) (fun _ _ _ h => h) rfl (by first | exact M.out | exact M.out.take 1)
        case' hy => exact ylds _ _ rfl rfl Try.underlying2 rfl rfl (fun w' hS => (hS.sl HS.out).at64 HJAT.out)
        try simp only [Act.put, List.getElem_toArray, List.getElem_cons_succ, List.getElem_cons_zero, List.setIfInBounds_toArray, List.set_cons_succ, List.set_cons_zero]
        refine any1H 5 (by kernel_rfl) rfl (fun K hK => ?_)
        go_wp2_with (first | ((with_reducible refine gate_dst (N := 15) rfl ?_); go_must (refine M.out.ev_ldw 0 _ _ rfl rfl rfl Try.underlying65 rfl (by first | exact sz65 | (rw [S1.out]; exact sz65) | (rw [S2.out]; exact sz65) | (rw [S3.out]; exact sz65)) rfl ?_)) | (go_at_call 36; go_must (refine (l04Inside_any x hx z hj100 _).mono ?_); rintro e w_ ⟨rfl, N_⟩; have m := M.out.join N_; clear N_; simp only [List.cons_append, List.nil_append, List.append_nil] at m; have M := Lib.hid m; clear m; rw [HQ.out]; have x1 := (M.out.sl HT.out).atI HGI.out))
        refine onward_normal (hK _ _ ⟨(by first | exact M.out | exact M.out.take 1), ?_⟩)
        clear hK K
        try simp only [Act.put, List.getElem_toArray, List.getElem_cons_succ, List.getElem_cons_zero, List.setIfInBounds_toArray, List.set_cons_succ, List.set_cons_zero]
        refine wpAnyH_done (by kernel_rfl) ?_ _
        all_goals
          go_wp2
          exact ⟨⟨j + 1, by omega, by go_num, by rw [HDD.out]; try (congr 1; omega), M.out⟩, by simp [intOf]; try omega⟩
    · obtain rfl : j = ds.length := by omega
      go_wp2
      go_ret
      exact ⟨rfl, M.out.take 0⟩
set_option maxRecDepth 100000 in
set_option maxHeartbeats 8000000 in
theorem spec_DutiesFor_any (F : Fld) (hF : F.ok) (p : Prices) (hp : p.ok) (c : Cs) (hc : c.ok) (w : World) :
    Calls Try.prog 18 #[.agg F.cells, .agg p.vals.toArray, .agg c.cells] w (RetRowC w 2 1 (duRes F p c).length (flat oneI (duRes F p c)) (gCode F p c)) := by
  have M := Lib.hid (Mem.start w)
  have HF := Lib.hid hF
  have S1 := Lib.hid (Fld.size hF.toLen)
  have HCC := Lib.hid hc
  clear hF
  by_cases hk : prCode F p [] c = 0
  · have h1 := (prCode_0 hk).2
    have HG := Lib.hid (prCode_0 hk).1
    have hin := (ntCode_0 h1).2.2.2
    have h12 := (ntCode_0 h1).2.2.1
    have HIN := Lib.hid hin
    have HK := Lib.hid hk
    have HV := Lib.hid (netsOk_iff.1 (ntCode_0 h1).1).1
    cases hw : wood F c
    · have HW := Lib.hid hw
      have HR := Lib.hid (show duRes F p c = duTo F p c.all c.all.length by rw [duRes, if_pos hk, hw]; rfl)
      have HC := Lib.hid (show gCode F p c = 0 by rw [gCode, if_pos hk, hw]; rfl)
      clear hk h1 hw hin
      go_enter Try.func18, Try.ntmps18
      go_wp2_with (first
        | ((with_reducible refine gate_dst (N := 3) rfl ?_); go_must (refine M.out.ev_new rfl (by first | (go_simp; done) | (go_simp; rfl)) ?_); intro g3 w3 m; simp only [List.cons_append, List.nil_append] at m; have M := Lib.hid m; clear m)
        | ((with_reducible refine gate_dst (N := 4) rfl ?_); go_must (refine M.out.ev_new rfl (by first | (go_simp; done) | (go_simp; rfl)) ?_); intro g4 w4 m; simp only [List.cons_append, List.nil_append] at m; have M := Lib.hid m; clear m)
        | ((with_reducible refine gate_dst (N := 5) rfl ?_); go_must (refine M.out.ev_new rfl (by first | (go_simp; done) | (go_simp; rfl)) ?_); intro g5 w5 m; simp only [List.cons_append, List.nil_append] at m; have M := Lib.hid m; clear m)
        | ((with_reducible refine gate_dst (N := 16) rfl ?_); go_must (refine M.out.ev_ldw 1 _ _ rfl rfl rfl Try.underlying37 rfl (by first | exact sz37 | (rw [S1.out]; exact sz37) | (rw [S2.out]; exact sz37) | (rw [S3.out]; exact sz37)) rfl ?_))
        | ((with_reducible refine gate_dst (N := 46) rfl ?_); go_must (refine M.out.ev_ldw 1 _ _ rfl rfl rfl Try.underlying37 rfl (by first | exact sz37 | (rw [S1.out]; exact sz37) | (rw [S2.out]; exact sz37) | (rw [S3.out]; exact sz37)) rfl ?_))
        | (go_at_call 31; go_must (refine (l04Priced_any g3 g5 F HF.out p hp c hc _ (M.out.blk 0 rfl) (M.out.blk 2 rfl)).mono ?_); rintro e w_ ⟨rfl, N_⟩; have m := M.out.join N_; clear N_; simp only [List.cons_append, List.nil_append, List.append_nil] at m; have M := Lib.hid m; clear m; rw [HK.out])
        | (go_at_call 33; go_must (refine (l04Wood_any g3 g5 F HF.out c hc _ (M.out.blk 0 rfl) (M.out.blk 2 rfl)).mono ?_); rintro e w_ ⟨rfl, N_⟩; have m := M.out.join N_; clear N_; simp only [List.cons_append, List.nil_append, List.append_nil] at m; have M := Lib.hid m; clear m; rw [HW.out])
        | (go_at_call 34; go_must (refine (l01List_any g5 c hc _ (M.out.blk 2 rfl)).mono ?_); rintro e w_ ⟨A_, c_, rfl, hc_, N_⟩; have m := M.out.join N_; clear N_; simp only [List.cons_append, List.nil_append, List.append_nil] at m; have M := Lib.hid m; clear m)
        | ((with_reducible refine gate_dst (N := 28) rfl ?_); go_must (refine M.out.ev_bs0 elem_int64 rfl rfl ?_); intro gv28 wv28 m; simp only [List.cons_append, List.nil_append] at m; have M := Lib.hid m; clear m)
        )
      go_loopw [10, 11] (fun s v wr => ∃ t : Nat, t ≤ c.all.length ∧ lenOf s = t ∧ v = .int .i64 t ∧ Mem w wr [.blk g3 35 F.cells, .blk g4 37 p.vals.toArray, .blk g5 39 c.cells, .row (.slice A_ c.all.length c_) 2 1 c.all.length (flat one64 c.all), .row s 2 1 (duTo F p c.all t).length (flat oneI (duTo F p c.all t))])
        (fun _ v _ => c.all.length - (intOf v).toNat)
      case atStart => exact ⟨0, by omega, rfl, rfl, M.out⟩
      case round =>
        clear M
        obtain ⟨t, ht, hlo, rfl, m⟩ := hrel
        have M := Lib.hid m
        clear m
        have htl : (duTo F p c.all t).length ≤ t ∧ t ≤ (duTo F p c.all t).length := by rw [duTo_len]; exact ⟨Nat.le_refl _, Nat.le_refl _⟩
        have hab := duTo_b HV.out HG.out c.all t
        have hbl := duB_le (t := t) (by omega)
        obtain ⟨B, cB, rfl, hcB, _⟩ := M.out.row_slice 4 rfl
        clear hlo
        by_cases hlt : t < c.all.length
        · have i0 : (0 : Int) ≤ (t : Int) := by omega
          have i1 : (t : Int) < (c.all.length : Int) := by omega
          obtain ⟨hat, hmem, hj2⟩ := all_getD hlt
          have hk2 := HIN.out _ hmem
          have HK2 := Lib.hid hk2
          have hnl := netsAt_len HV.out hj2
          have HSN := Lib.hid (show ∀ n ∈ netsAt F (c.all.getD t 0), n.snug from fun n hn => Net.snug_of HV.out (netsAt_fits hn))
          have HDU := Lib.hid (show duTo F p c.all (t + 1) = duTo F p c.all t ++ [dFold p c.all (duTo F p c.all t) (netsAt F (c.all.getD t 0)) (netsAt F (c.all.getD t 0)).length] from rfl)
          have HDB := Lib.hid (fun (n : Net) (hn : n.plain = true) => own_b HG.out c.all (duTo F p c.all t) hn)
          have HFB := Lib.hid (dFold_b HG.out c.all (duTo F p c.all t) (ns := netsAt F (c.all.getD t 0)) (fun n hn => (HSN.out n hn).1) hab.1)
          obtain ⟨ds, hds⟩ : ∃ ds, ds = duTo F p c.all t := ⟨_, rfl⟩
          obtain ⟨ns, hns⟩ : ∃ ns, ns = netsAt F (c.all.getD t 0) := ⟨_, rfl⟩
          obtain ⟨k, hkk⟩ : ∃ k, k = c.all.getD t 0 := ⟨_, rfl⟩
          have ALLN := Lib.hid (fun (w : World) hb => l04All_any g3 (t := 35) F HF.out HV.out (c.all.getD t 0) hj2 HK2.out w hb)
          rw [← hds, ← hns] at HDU
          rw [← hns] at HSN hnl
          rw [← hds] at HDB
          rw [← hds, ← hns] at HFB
          rw [← hns, ← hkk] at ALLN
          rw [← hkk] at hat hj2
          rw [← hds] at htl hab M ⊢
          have HAT := Lib.hid hat
          clear hds hns hkk hmem hk2 hat
          obtain ⟨lb, loff, rfl, _⟩ := (M.out.slof 3 rfl).2 (by omega)
          have x0 := (M.out.slof 3 rfl).at64 HAT.out
          go_wp2_with (first
            | ((with_reducible refine gate_dst (N := 3) rfl ?_); go_must (refine M.out.ev_new rfl (by first | (go_simp; done) | (go_simp; rfl)) ?_); intro g3 w3 m; simp only [List.cons_append, List.nil_append] at m; have M := Lib.hid m; clear m)
            | ((with_reducible refine gate_dst (N := 4) rfl ?_); go_must (refine M.out.ev_new rfl (by first | (go_simp; done) | (go_simp; rfl)) ?_); intro g4 w4 m; simp only [List.cons_append, List.nil_append] at m; have M := Lib.hid m; clear m)
            | ((with_reducible refine gate_dst (N := 5) rfl ?_); go_must (refine M.out.ev_new rfl (by first | (go_simp; done) | (go_simp; rfl)) ?_); intro g5 w5 m; simp only [List.cons_append, List.nil_append] at m; have M := Lib.hid m; clear m)
            | ((with_reducible refine gate_dst (N := 16) rfl ?_); go_must (refine M.out.ev_ldw 1 _ _ rfl rfl rfl Try.underlying37 rfl (by first | exact sz37 | (rw [S1.out]; exact sz37) | (rw [S2.out]; exact sz37) | (rw [S3.out]; exact sz37)) rfl ?_))
            | ((with_reducible refine gate_dst (N := 46) rfl ?_); go_must (refine M.out.ev_ldw 1 _ _ rfl rfl rfl Try.underlying37 rfl (by first | exact sz37 | (rw [S1.out]; exact sz37) | (rw [S2.out]; exact sz37) | (rw [S3.out]; exact sz37)) rfl ?_))
            | (go_at_call 35; go_must (refine (ALLN.out _ (M.out.blk 0 rfl)).mono ?_); rintro e w_ ⟨A2, c2, rfl, hc2, N_⟩; have m := M.out.join N_; clear N_; simp only [List.cons_append, List.nil_append, List.append_nil] at m; have M := Lib.hid m; clear m)
            )
          go_loopw [13, 14] (fun u x wr => ∃ i : Nat, i ≤ ns.length ∧ x = .int .i64 i ∧ u = .int .i64 (dFold p c.all ds ns i) ∧ Mem w wr [.blk g3 35 F.cells, .blk g4 37 p.vals.toArray, .blk g5 39 c.cells, .row (.slice (some ⟨lb, loff, none⟩) c.all.length c_) 2 1 c.all.length (flat one64 c.all), .row (.slice B ds.length cB) 2 1 ds.length (flat oneI ds), .row (.slice A2 ns.length c2) 65 4 ns.length (flat Net.vals ns)])
            (fun _ x _ => ns.length - (intOf x).toNat)
          case atStart => exact ⟨0, by omega, rfl, rfl, M.out⟩
          case round =>
            clear M x0
            obtain ⟨i, hi, rfl, rfl, m⟩ := hrel
            have M := Lib.hid m
            clear m
            by_cases hit : i < ns.length
            · obtain ⟨nb, noff, rfl, _⟩ := (M.out.slof 5 rfl).2 (by omega)
              have HXK := Lib.hid (show ns[i]? = some ns[i] from List.getElem?_eq_getElem hit)
              have HFS := Lib.hid (dFold_succ p c.all ds hit)
              obtain ⟨hpl, hx10, hy10⟩ := HSN.out ns[i] (List.getElem_mem hit)
              have hca := (costOk HG.out hpl).k
              have hob := HDB.out ns[i] hpl
              have hfb := HFB.out i hi
              have q0 : (0 : Int) ≤ (i : Int) := by omega
              have q1 : (i : Int) < (ns.length : Int) := by omega
              obtain ⟨x, hx⟩ : ∃ x, x = ns[i] := ⟨_, rfl⟩
              rw [← hx] at HXK HFS hpl hx10 hy10 hca hob
              have OKX := Lib.hid (show x.ok by
                obtain ⟨⟨a0, a1⟩, ⟨b0, b1⟩, ⟨c0, c1⟩, ⟨d0, d1⟩⟩ := Net.plain_iff.1 hpl
                exact ⟨by omega, by omega, by omega, by omega⟩)
              have HDT := Lib.hid (show ∀ j, j ≤ ds.length → -1000000000000000 ≤ dTo x c.all ds j ∧ dTo x c.all ds j ≤ 1000000000000000 from fun j hj => by
                have b1 := dTo_abs x c.all ds j
                have b3 := aTo_mono ds j ds.length hj
                omega)
              have HOW := Lib.hid (show netCost p x - dTo x c.all ds ds.length = ownN p c.all ds x from rfl)
              obtain ⟨d0, hd0⟩ : ∃ d0, d0 = dFold p c.all ds ns i := ⟨_, rfl⟩
              obtain ⟨ow, how⟩ : ∃ ow, ow = ownN p c.all ds x := ⟨_, rfl⟩
              rw [← hd0] at HFS hfb
              rw [← how] at HFS HOW hob
              have w1 : IntKind.i64.wrap (netCost p x - dTo x c.all ds ds.length) = ow := by rw [HOW.out]; exact IntWalk.i64_in _ (by omega)
              rw [← hd0]
              clear hx hd0 how
              have HDS2 := HFS.out
              unfold dStep at HDS2
              by_cases z1 : d0 < 0 <;> by_cases z2 : ow < d0
              all_goals
                first
                  | rw [decide_eq_true z1, Bool.true_or, if_pos rfl] at HDS2
                  | rw [decide_eq_true z2, Bool.or_true, if_pos rfl] at HDS2
                  | rw [decide_eq_false z1, decide_eq_false z2, Bool.or_false, if_neg (by decide)] at HDS2
                have HDS2 := Lib.hid HDS2
                go_wp2
                refine region_anyH (fun w' => Mem w w' [.blk g3 35 F.cells, .blk g4 37 p.vals.toArray, .blk g5 39 c.cells, .row (.slice (some ⟨lb, loff, none⟩) c.all.length c_) 2 1 c.all.length (flat one64 c.all), .row (.slice B ds.length cB) 2 1 ds.length (flat oneI ds), .row (.slice (some ⟨nb, noff, none⟩) ns.length c2) 65 4 ns.length (flat Net.vals ns)]) (by kernel_rfl) ?_
                have m := M.out.drew
                clear M
                have M := Lib.hid m
                clear m
                apply takeH (i := 0) 46 rfl (by kernel_rfl) (by kernel_rfl) (by kernel_rfl) (fun _ _ _ h => h) rfl (by first | exact M.out | exact M.out.take 6)
                case' hy => exact yldw _ _ rfl rfl Try.underlying37 rfl (by first | exact sz37 | (rw [S1.out]; exact sz37) | (rw [S2.out]; exact sz37) | (rw [S3.out]; exact sz37)) rfl (fun w' hS => hS.blk 1 rfl)
                try simp only [Act.put, List.getElem_toArray, List.getElem_cons_succ, List.getElem_cons_zero, List.setIfInBounds_toArray, List.set_cons_succ, List.set_cons_zero]
                apply takeH (i := 1) 47 rfl (by kernel_rfl) (by kernel_rfl) (by kernel_rfl) (fun _ _ _ h => h) rfl (by first | exact M.out | exact M.out.take 6)
                case' hy =>
                  refine Or.inl ⟨by first | rfl | (go_simp; done), ?_⟩
                  intro w hS
                  clear hS
                  go_simp
                  try with_reducible rfl
                try simp only [Act.put, List.getElem_toArray, List.getElem_cons_succ, List.getElem_cons_zero, List.setIfInBounds_toArray, List.set_cons_succ, List.set_cons_zero]
                apply takeH (i := 2) 48 rfl (by kernel_rfl) (by kernel_rfl) (by kernel_rfl) (fun _ _ _ h => h) rfl (by first | exact M.out | exact M.out.take 6)
                case' hy =>
                  refine Or.inl ⟨by first | rfl | (go_simp; done), ?_⟩
                  intro w hS
                  clear hS
                  go_simp
                  try with_reducible rfl
                try simp only [Act.put, List.getElem_toArray, List.getElem_cons_succ, List.getElem_cons_zero, List.setIfInBounds_toArray, List.set_cons_succ, List.set_cons_zero]
                apply takeH (i := 3) 49 rfl (by kernel_rfl) (by kernel_rfl) (by kernel_rfl) (fun _ _ _ h => h) rfl (by first | exact M.out | exact M.out.take 6)
                case' hy =>
                  refine Or.inl ⟨by first | rfl | (go_simp; done), ?_⟩
                  intro w hS
                  clear hS
                  go_simp
                  try with_reducible rfl
                try simp only [Act.put, List.getElem_toArray, List.getElem_cons_succ, List.getElem_cons_zero, List.setIfInBounds_toArray, List.set_cons_succ, List.set_cons_zero]
                apply takeH (i := 6) 52 rfl (by kernel_rfl) (by kernel_rfl) (by kernel_rfl) (fun _ _ _ h => h) rfl (by first | exact M.out | exact M.out.take 6)
                case' hy =>
                  refine Or.inl ⟨by first | rfl | (go_simp; done), ?_⟩
                  intro w hS
                  clear hS
                  go_simp
                  try with_reducible rfl
                try simp only [Act.put, List.getElem_toArray, List.getElem_cons_succ, List.getElem_cons_zero, List.setIfInBounds_toArray, List.set_cons_succ, List.set_cons_zero]
                apply takeH (i := 7) 53 rfl (by kernel_rfl) (by kernel_rfl) (by kernel_rfl) (fun _ _ _ h => h) rfl (by first | exact M.out | exact M.out.take 6)
                case' hy =>
                  refine Or.inl ⟨by first | rfl | (go_simp; done), ?_⟩
                  intro w hS
                  clear hS
                  go_simp
                  try with_reducible rfl
                try simp only [Act.put, List.getElem_toArray, List.getElem_cons_succ, List.getElem_cons_zero, List.setIfInBounds_toArray, List.set_cons_succ, List.set_cons_zero]
                apply takeH (i := 8) 54 rfl (by kernel_rfl) (by kernel_rfl) (by kernel_rfl) (fun _ _ _ h => h) rfl (by first | exact M.out | exact M.out.take 6)
                case' hy =>
                  refine Or.inl ⟨by first | rfl | (go_simp; done), ?_⟩
                  intro w hS
                  clear hS
                  go_simp
                  try with_reducible rfl
                try simp only [Act.put, List.getElem_toArray, List.getElem_cons_succ, List.getElem_cons_zero, List.setIfInBounds_toArray, List.set_cons_succ, List.set_cons_zero]
                apply takeH (i := 10) 56 rfl (by kernel_rfl) (by kernel_rfl) (by kernel_rfl) (fun _ _ _ h => h) rfl (by first | exact M.out | exact M.out.take 6)
                case' hy =>
                  refine Or.inl ⟨by first | rfl | (go_simp; done), ?_⟩
                  intro w hS
                  clear hS
                  go_simp
                  try with_reducible rfl
                try simp only [Act.put, List.getElem_toArray, List.getElem_cons_succ, List.getElem_cons_zero, List.setIfInBounds_toArray, List.set_cons_succ, List.set_cons_zero]
                apply takeH (i := 11) 57 rfl (by kernel_rfl) (by kernel_rfl) (by kernel_rfl) (fun _ _ _ h => h) rfl (by first | exact M.out | exact M.out.take 6)
                case' hy =>
                  refine Or.inl ⟨by first | rfl | (go_simp; done), ?_⟩
                  intro w hS
                  clear hS
                  go_simp
                  try with_reducible rfl
                try simp only [Act.put, List.getElem_toArray, List.getElem_cons_succ, List.getElem_cons_zero, List.setIfInBounds_toArray, List.set_cons_succ, List.set_cons_zero]
                refine any2H 4 9 (by kernel_rfl) rfl rfl (fun K hK => ?_) (fun K hK => ?_)
                rotate_right 1
                case' _ =>
                  go_wp2_with (first | ((with_reducible refine gate_dst (N := 46) rfl ?_); go_must (refine M.out.ev_ldw 1 _ _ rfl rfl rfl Try.underlying37 rfl (by first | exact sz37 | (rw [S1.out]; exact sz37) | (rw [S2.out]; exact sz37) | (rw [S3.out]; exact sz37)) rfl ?_)) | ((with_reducible refine gate_dst (N := 50) rfl ?_); go_must (refine ev_ldr _ _ rfl rfl (range_at Net.vl ((M.out.slof 5 rfl).range (by omega)) HXK.out) Try.underlying65 rfl (by first | exact sz65 | (rw [S1.out]; exact sz65)) rfl ?_)) | ((with_reducible refine gate_dst (N := 55) rfl ?_); go_must (refine ev_ldr _ _ rfl rfl (range_at Net.vl ((M.out.slof 5 rfl).range (by omega)) HXK.out) Try.underlying65 rfl (by first | exact sz65 | (rw [S1.out]; exact sz65)) rfl ?_)) | (go_at_call 37; go_must (refine (l04Cost_any p HG.out x hpl _).mono ?_); rintro e w_ ⟨rfl, N_⟩; have m := M.out.join N_; clear N_; simp only [List.cons_append, List.nil_append, List.append_nil] at m; have M := Lib.hid m; clear m) | (go_at_call 57; go_must (refine (l04Duties_any x OKX.out c _ _ _ _ ds (by omega) HDT.out _ (M.out.slof 3 rfl) (M.out.slof 4 rfl)).mono ?_); rintro e w_ ⟨rfl, N_⟩; have m := M.out.join N_; clear N_; simp only [List.cons_append, List.nil_append, List.append_nil] at m; have M := Lib.hid m; clear m))
                  refine onward_normal (hK _ _ ⟨(by first | exact M.out | exact M.out.take 6), ?_⟩)
                  clear hK K
                  try simp only [Act.put, List.getElem_toArray, List.getElem_cons_succ, List.getElem_cons_zero, List.setIfInBounds_toArray, List.set_cons_succ, List.set_cons_zero]
                  refine any1H 4 (by kernel_rfl) rfl (fun K hK => ?_)
                  go_wp2_with (first | ((with_reducible refine gate_dst (N := 46) rfl ?_); go_must (refine M.out.ev_ldw 1 _ _ rfl rfl rfl Try.underlying37 rfl (by first | exact sz37 | (rw [S1.out]; exact sz37) | (rw [S2.out]; exact sz37) | (rw [S3.out]; exact sz37)) rfl ?_)) | ((with_reducible refine gate_dst (N := 50) rfl ?_); go_must (refine ev_ldr _ _ rfl rfl (range_at Net.vl ((M.out.slof 5 rfl).range (by omega)) HXK.out) Try.underlying65 rfl (by first | exact sz65 | (rw [S1.out]; exact sz65)) rfl ?_)) | ((with_reducible refine gate_dst (N := 55) rfl ?_); go_must (refine ev_ldr _ _ rfl rfl (range_at Net.vl ((M.out.slof 5 rfl).range (by omega)) HXK.out) Try.underlying65 rfl (by first | exact sz65 | (rw [S1.out]; exact sz65)) rfl ?_)) | (go_at_call 37; go_must (refine (l04Cost_any p HG.out x hpl _).mono ?_); rintro e w_ ⟨rfl, N_⟩; have m := M.out.join N_; clear N_; simp only [List.cons_append, List.nil_append, List.append_nil] at m; have M := Lib.hid m; clear m) | (go_at_call 57; go_must (refine (l04Duties_any x OKX.out c _ _ _ _ ds (by omega) HDT.out _ (M.out.slof 3 rfl) (M.out.slof 4 rfl)).mono ?_); rintro e w_ ⟨rfl, N_⟩; have m := M.out.join N_; clear N_; simp only [List.cons_append, List.nil_append, List.append_nil] at m; have M := Lib.hid m; clear m))
                  refine onward_normal (hK _ _ ⟨(by first | exact M.out | exact M.out.take 6), ?_⟩)
                  clear hK K
                  try simp only [Act.put, List.getElem_toArray, List.getElem_cons_succ, List.getElem_cons_zero, List.setIfInBounds_toArray, List.set_cons_succ, List.set_cons_zero]
                  refine any1H 5 (by kernel_rfl) rfl (fun K hK => ?_)
                  go_wp2_with (first | ((with_reducible refine gate_dst (N := 46) rfl ?_); go_must (refine M.out.ev_ldw 1 _ _ rfl rfl rfl Try.underlying37 rfl (by first | exact sz37 | (rw [S1.out]; exact sz37) | (rw [S2.out]; exact sz37) | (rw [S3.out]; exact sz37)) rfl ?_)) | ((with_reducible refine gate_dst (N := 50) rfl ?_); go_must (refine ev_ldr _ _ rfl rfl (range_at Net.vl ((M.out.slof 5 rfl).range (by omega)) HXK.out) Try.underlying65 rfl (by first | exact sz65 | (rw [S1.out]; exact sz65)) rfl ?_)) | ((with_reducible refine gate_dst (N := 55) rfl ?_); go_must (refine ev_ldr _ _ rfl rfl (range_at Net.vl ((M.out.slof 5 rfl).range (by omega)) HXK.out) Try.underlying65 rfl (by first | exact sz65 | (rw [S1.out]; exact sz65)) rfl ?_)) | (go_at_call 37; go_must (refine (l04Cost_any p HG.out x hpl _).mono ?_); rintro e w_ ⟨rfl, N_⟩; have m := M.out.join N_; clear N_; simp only [List.cons_append, List.nil_append, List.append_nil] at m; have M := Lib.hid m; clear m) | (go_at_call 57; go_must (refine (l04Duties_any x OKX.out c _ _ _ _ ds (by omega) HDT.out _ (M.out.slof 3 rfl) (M.out.slof 4 rfl)).mono ?_); rintro e w_ ⟨rfl, N_⟩; have m := M.out.join N_; clear N_; simp only [List.cons_append, List.nil_append, List.append_nil] at m; have M := Lib.hid m; clear m))
                  refine onward_normal (hK _ _ ⟨(by first | exact M.out | exact M.out.take 6), ?_⟩)
                  clear hK K
                  try simp only [Act.put, List.getElem_toArray, List.getElem_cons_succ, List.getElem_cons_zero, List.setIfInBounds_toArray, List.set_cons_succ, List.set_cons_zero]
                  refine any1H 12 (by kernel_rfl) rfl (fun K hK => ?_)
                  go_wp2_with (first | ((with_reducible refine gate_dst (N := 46) rfl ?_); go_must (refine M.out.ev_ldw 1 _ _ rfl rfl rfl Try.underlying37 rfl (by first | exact sz37 | (rw [S1.out]; exact sz37) | (rw [S2.out]; exact sz37) | (rw [S3.out]; exact sz37)) rfl ?_)) | ((with_reducible refine gate_dst (N := 50) rfl ?_); go_must (refine ev_ldr _ _ rfl rfl (range_at Net.vl ((M.out.slof 5 rfl).range (by omega)) HXK.out) Try.underlying65 rfl (by first | exact sz65 | (rw [S1.out]; exact sz65)) rfl ?_)) | ((with_reducible refine gate_dst (N := 55) rfl ?_); go_must (refine ev_ldr _ _ rfl rfl (range_at Net.vl ((M.out.slof 5 rfl).range (by omega)) HXK.out) Try.underlying65 rfl (by first | exact sz65 | (rw [S1.out]; exact sz65)) rfl ?_)) | (go_at_call 37; go_must (refine (l04Cost_any p HG.out x hpl _).mono ?_); rintro e w_ ⟨rfl, N_⟩; have m := M.out.join N_; clear N_; simp only [List.cons_append, List.nil_append, List.append_nil] at m; have M := Lib.hid m; clear m) | (go_at_call 57; go_must (refine (l04Duties_any x OKX.out c _ _ _ _ ds (by omega) HDT.out _ (M.out.slof 3 rfl) (M.out.slof 4 rfl)).mono ?_); rintro e w_ ⟨rfl, N_⟩; have m := M.out.join N_; clear N_; simp only [List.cons_append, List.nil_append, List.append_nil] at m; have M := Lib.hid m; clear m))
                  refine onward_normal (hK _ _ ⟨(by first | exact M.out | exact M.out.take 6), ?_⟩)
                  clear hK K
                  try simp only [Act.put, List.getElem_toArray, List.getElem_cons_succ, List.getElem_cons_zero, List.setIfInBounds_toArray, List.set_cons_succ, List.set_cons_zero]
                  apply takeH (i := 13) 59 rfl (by kernel_rfl) (by kernel_rfl) (by kernel_rfl) (fun _ _ _ h => h) rfl (by first | exact M.out | exact M.out.take 6)
                  case' hy =>
                    refine Or.inl ⟨by first | rfl | (go_simp; done), ?_⟩
                    intro w hS
                    clear hS
                    go_simp
                    try with_reducible rfl
                  try simp only [Act.put, List.getElem_toArray, List.getElem_cons_succ, List.getElem_cons_zero, List.setIfInBounds_toArray, List.set_cons_succ, List.set_cons_zero]
                  apply takeH (i := 14) 15 rfl (by kernel_rfl) (by kernel_rfl) (by kernel_rfl) (fun _ _ _ h => h) rfl (by first | exact M.out | exact M.out.take 6)
                  case' hy =>
                    refine Or.inl ⟨by first | rfl | (go_simp; done), ?_⟩
                    intro w hS
                    clear hS
                    go_simp
                    try with_reducible rfl
                  try simp only [Act.put, List.getElem_toArray, List.getElem_cons_succ, List.getElem_cons_zero, List.setIfInBounds_toArray, List.set_cons_succ, List.set_cons_zero]
                  refine wpAnyH_done (by kernel_rfl) ?_ _
                rotate_right 1
                case' _ =>
                  go_wp2_with (first | ((with_reducible refine gate_dst (N := 46) rfl ?_); go_must (refine M.out.ev_ldw 1 _ _ rfl rfl rfl Try.underlying37 rfl (by first | exact sz37 | (rw [S1.out]; exact sz37) | (rw [S2.out]; exact sz37) | (rw [S3.out]; exact sz37)) rfl ?_)) | ((with_reducible refine gate_dst (N := 50) rfl ?_); go_must (refine ev_ldr _ _ rfl rfl (range_at Net.vl ((M.out.slof 5 rfl).range (by omega)) HXK.out) Try.underlying65 rfl (by first | exact sz65 | (rw [S1.out]; exact sz65)) rfl ?_)) | ((with_reducible refine gate_dst (N := 55) rfl ?_); go_must (refine ev_ldr _ _ rfl rfl (range_at Net.vl ((M.out.slof 5 rfl).range (by omega)) HXK.out) Try.underlying65 rfl (by first | exact sz65 | (rw [S1.out]; exact sz65)) rfl ?_)) | (go_at_call 37; go_must (refine (l04Cost_any p HG.out x hpl _).mono ?_); rintro e w_ ⟨rfl, N_⟩; have m := M.out.join N_; clear N_; simp only [List.cons_append, List.nil_append, List.append_nil] at m; have M := Lib.hid m; clear m) | (go_at_call 57; go_must (refine (l04Duties_any x OKX.out c _ _ _ _ ds (by omega) HDT.out _ (M.out.slof 3 rfl) (M.out.slof 4 rfl)).mono ?_); rintro e w_ ⟨rfl, N_⟩; have m := M.out.join N_; clear N_; simp only [List.cons_append, List.nil_append, List.append_nil] at m; have M := Lib.hid m; clear m))
                  refine onward_normal (hK _ _ ⟨(by first | exact M.out | exact M.out.take 6), ?_⟩)
                  clear hK K
                  try simp only [Act.put, List.getElem_toArray, List.getElem_cons_succ, List.getElem_cons_zero, List.setIfInBounds_toArray, List.set_cons_succ, List.set_cons_zero]
                  refine any2H 5 9 (by kernel_rfl) rfl rfl (fun K hK => ?_) (fun K hK => ?_)
                  rotate_right 1
                  case' _ =>
                    go_wp2_with (first | ((with_reducible refine gate_dst (N := 46) rfl ?_); go_must (refine M.out.ev_ldw 1 _ _ rfl rfl rfl Try.underlying37 rfl (by first | exact sz37 | (rw [S1.out]; exact sz37) | (rw [S2.out]; exact sz37) | (rw [S3.out]; exact sz37)) rfl ?_)) | ((with_reducible refine gate_dst (N := 50) rfl ?_); go_must (refine ev_ldr _ _ rfl rfl (range_at Net.vl ((M.out.slof 5 rfl).range (by omega)) HXK.out) Try.underlying65 rfl (by first | exact sz65 | (rw [S1.out]; exact sz65)) rfl ?_)) | ((with_reducible refine gate_dst (N := 55) rfl ?_); go_must (refine ev_ldr _ _ rfl rfl (range_at Net.vl ((M.out.slof 5 rfl).range (by omega)) HXK.out) Try.underlying65 rfl (by first | exact sz65 | (rw [S1.out]; exact sz65)) rfl ?_)) | (go_at_call 37; go_must (refine (l04Cost_any p HG.out x hpl _).mono ?_); rintro e w_ ⟨rfl, N_⟩; have m := M.out.join N_; clear N_; simp only [List.cons_append, List.nil_append, List.append_nil] at m; have M := Lib.hid m; clear m) | (go_at_call 57; go_must (refine (l04Duties_any x OKX.out c _ _ _ _ ds (by omega) HDT.out _ (M.out.slof 3 rfl) (M.out.slof 4 rfl)).mono ?_); rintro e w_ ⟨rfl, N_⟩; have m := M.out.join N_; clear N_; simp only [List.cons_append, List.nil_append, List.append_nil] at m; have M := Lib.hid m; clear m))
                    refine onward_normal (hK _ _ ⟨(by first | exact M.out | exact M.out.take 6), ?_⟩)
                    clear hK K
                    try simp only [Act.put, List.getElem_toArray, List.getElem_cons_succ, List.getElem_cons_zero, List.setIfInBounds_toArray, List.set_cons_succ, List.set_cons_zero]
                    refine any1H 5 (by kernel_rfl) rfl (fun K hK => ?_)
                    go_wp2_with (first | ((with_reducible refine gate_dst (N := 46) rfl ?_); go_must (refine M.out.ev_ldw 1 _ _ rfl rfl rfl Try.underlying37 rfl (by first | exact sz37 | (rw [S1.out]; exact sz37) | (rw [S2.out]; exact sz37) | (rw [S3.out]; exact sz37)) rfl ?_)) | ((with_reducible refine gate_dst (N := 50) rfl ?_); go_must (refine ev_ldr _ _ rfl rfl (range_at Net.vl ((M.out.slof 5 rfl).range (by omega)) HXK.out) Try.underlying65 rfl (by first | exact sz65 | (rw [S1.out]; exact sz65)) rfl ?_)) | ((with_reducible refine gate_dst (N := 55) rfl ?_); go_must (refine ev_ldr _ _ rfl rfl (range_at Net.vl ((M.out.slof 5 rfl).range (by omega)) HXK.out) Try.underlying65 rfl (by first | exact sz65 | (rw [S1.out]; exact sz65)) rfl ?_)) | (go_at_call 37; go_must (refine (l04Cost_any p HG.out x hpl _).mono ?_); rintro e w_ ⟨rfl, N_⟩; have m := M.out.join N_; clear N_; simp only [List.cons_append, List.nil_append, List.append_nil] at m; have M := Lib.hid m; clear m) | (go_at_call 57; go_must (refine (l04Duties_any x OKX.out c _ _ _ _ ds (by omega) HDT.out _ (M.out.slof 3 rfl) (M.out.slof 4 rfl)).mono ?_); rintro e w_ ⟨rfl, N_⟩; have m := M.out.join N_; clear N_; simp only [List.cons_append, List.nil_append, List.append_nil] at m; have M := Lib.hid m; clear m))
                    refine onward_normal (hK _ _ ⟨(by first | exact M.out | exact M.out.take 6), ?_⟩)
                    clear hK K
                    try simp only [Act.put, List.getElem_toArray, List.getElem_cons_succ, List.getElem_cons_zero, List.setIfInBounds_toArray, List.set_cons_succ, List.set_cons_zero]
                    refine any1H 12 (by kernel_rfl) rfl (fun K hK => ?_)
                    go_wp2_with (first | ((with_reducible refine gate_dst (N := 46) rfl ?_); go_must (refine M.out.ev_ldw 1 _ _ rfl rfl rfl Try.underlying37 rfl (by first | exact sz37 | (rw [S1.out]; exact sz37) | (rw [S2.out]; exact sz37) | (rw [S3.out]; exact sz37)) rfl ?_)) | ((with_reducible refine gate_dst (N := 50) rfl ?_); go_must (refine ev_ldr _ _ rfl rfl (range_at Net.vl ((M.out.slof 5 rfl).range (by omega)) HXK.out) Try.underlying65 rfl (by first | exact sz65 | (rw [S1.out]; exact sz65)) rfl ?_)) | ((with_reducible refine gate_dst (N := 55) rfl ?_); go_must (refine ev_ldr _ _ rfl rfl (range_at Net.vl ((M.out.slof 5 rfl).range (by omega)) HXK.out) Try.underlying65 rfl (by first | exact sz65 | (rw [S1.out]; exact sz65)) rfl ?_)) | (go_at_call 37; go_must (refine (l04Cost_any p HG.out x hpl _).mono ?_); rintro e w_ ⟨rfl, N_⟩; have m := M.out.join N_; clear N_; simp only [List.cons_append, List.nil_append, List.append_nil] at m; have M := Lib.hid m; clear m) | (go_at_call 57; go_must (refine (l04Duties_any x OKX.out c _ _ _ _ ds (by omega) HDT.out _ (M.out.slof 3 rfl) (M.out.slof 4 rfl)).mono ?_); rintro e w_ ⟨rfl, N_⟩; have m := M.out.join N_; clear N_; simp only [List.cons_append, List.nil_append, List.append_nil] at m; have M := Lib.hid m; clear m))
                    refine onward_normal (hK _ _ ⟨(by first | exact M.out | exact M.out.take 6), ?_⟩)
                    clear hK K
                    try simp only [Act.put, List.getElem_toArray, List.getElem_cons_succ, List.getElem_cons_zero, List.setIfInBounds_toArray, List.set_cons_succ, List.set_cons_zero]
                    apply takeH (i := 13) 59 rfl (by kernel_rfl) (by kernel_rfl) (by kernel_rfl) (fun _ _ _ h => h) rfl (by first | exact M.out | exact M.out.take 6)
                    case' hy =>
                      refine Or.inl ⟨by first | rfl | (go_simp; done), ?_⟩
                      intro w hS
                      clear hS
                      go_simp
                      try with_reducible rfl
                    try simp only [Act.put, List.getElem_toArray, List.getElem_cons_succ, List.getElem_cons_zero, List.setIfInBounds_toArray, List.set_cons_succ, List.set_cons_zero]
                    apply takeH (i := 14) 15 rfl (by kernel_rfl) (by kernel_rfl) (by kernel_rfl) (fun _ _ _ h => h) rfl (by first | exact M.out | exact M.out.take 6)
                    case' hy =>
                      refine Or.inl ⟨by first | rfl | (go_simp; done), ?_⟩
                      intro w hS
                      clear hS
                      go_simp
                      try with_reducible rfl
                    try simp only [Act.put, List.getElem_toArray, List.getElem_cons_succ, List.getElem_cons_zero, List.setIfInBounds_toArray, List.set_cons_succ, List.set_cons_zero]
                    refine wpAnyH_done (by kernel_rfl) ?_ _
                  rotate_right 1
                  case' _ =>
                    go_wp2_with (first | ((with_reducible refine gate_dst (N := 46) rfl ?_); go_must (refine M.out.ev_ldw 1 _ _ rfl rfl rfl Try.underlying37 rfl (by first | exact sz37 | (rw [S1.out]; exact sz37) | (rw [S2.out]; exact sz37) | (rw [S3.out]; exact sz37)) rfl ?_)) | ((with_reducible refine gate_dst (N := 50) rfl ?_); go_must (refine ev_ldr _ _ rfl rfl (range_at Net.vl ((M.out.slof 5 rfl).range (by omega)) HXK.out) Try.underlying65 rfl (by first | exact sz65 | (rw [S1.out]; exact sz65)) rfl ?_)) | ((with_reducible refine gate_dst (N := 55) rfl ?_); go_must (refine ev_ldr _ _ rfl rfl (range_at Net.vl ((M.out.slof 5 rfl).range (by omega)) HXK.out) Try.underlying65 rfl (by first | exact sz65 | (rw [S1.out]; exact sz65)) rfl ?_)) | (go_at_call 37; go_must (refine (l04Cost_any p HG.out x hpl _).mono ?_); rintro e w_ ⟨rfl, N_⟩; have m := M.out.join N_; clear N_; simp only [List.cons_append, List.nil_append, List.append_nil] at m; have M := Lib.hid m; clear m) | (go_at_call 57; go_must (refine (l04Duties_any x OKX.out c _ _ _ _ ds (by omega) HDT.out _ (M.out.slof 3 rfl) (M.out.slof 4 rfl)).mono ?_); rintro e w_ ⟨rfl, N_⟩; have m := M.out.join N_; clear N_; simp only [List.cons_append, List.nil_append, List.append_nil] at m; have M := Lib.hid m; clear m))
                    refine onward_normal (hK _ _ ⟨(by first | exact M.out | exact M.out.take 6), ?_⟩)
                    clear hK K
                    try simp only [Act.put, List.getElem_toArray, List.getElem_cons_succ, List.getElem_cons_zero, List.setIfInBounds_toArray, List.set_cons_succ, List.set_cons_zero]
                    refine any1H 9 (by kernel_rfl) rfl (fun K hK => ?_)
                    go_wp2_with (first | ((with_reducible refine gate_dst (N := 46) rfl ?_); go_must (refine M.out.ev_ldw 1 _ _ rfl rfl rfl Try.underlying37 rfl (by first | exact sz37 | (rw [S1.out]; exact sz37) | (rw [S2.out]; exact sz37) | (rw [S3.out]; exact sz37)) rfl ?_)) | ((with_reducible refine gate_dst (N := 50) rfl ?_); go_must (refine ev_ldr _ _ rfl rfl (range_at Net.vl ((M.out.slof 5 rfl).range (by omega)) HXK.out) Try.underlying65 rfl (by first | exact sz65 | (rw [S1.out]; exact sz65)) rfl ?_)) | ((with_reducible refine gate_dst (N := 55) rfl ?_); go_must (refine ev_ldr _ _ rfl rfl (range_at Net.vl ((M.out.slof 5 rfl).range (by omega)) HXK.out) Try.underlying65 rfl (by first | exact sz65 | (rw [S1.out]; exact sz65)) rfl ?_)) | (go_at_call 37; go_must (refine (l04Cost_any p HG.out x hpl _).mono ?_); rintro e w_ ⟨rfl, N_⟩; have m := M.out.join N_; clear N_; simp only [List.cons_append, List.nil_append, List.append_nil] at m; have M := Lib.hid m; clear m) | (go_at_call 57; go_must (refine (l04Duties_any x OKX.out c _ _ _ _ ds (by omega) HDT.out _ (M.out.slof 3 rfl) (M.out.slof 4 rfl)).mono ?_); rintro e w_ ⟨rfl, N_⟩; have m := M.out.join N_; clear N_; simp only [List.cons_append, List.nil_append, List.append_nil] at m; have M := Lib.hid m; clear m))
                    refine onward_normal (hK _ _ ⟨(by first | exact M.out | exact M.out.take 6), ?_⟩)
                    clear hK K
                    try simp only [Act.put, List.getElem_toArray, List.getElem_cons_succ, List.getElem_cons_zero, List.setIfInBounds_toArray, List.set_cons_succ, List.set_cons_zero]
                    refine any1H 12 (by kernel_rfl) rfl (fun K hK => ?_)
                    go_wp2_with (first | ((with_reducible refine gate_dst (N := 46) rfl ?_); go_must (refine M.out.ev_ldw 1 _ _ rfl rfl rfl Try.underlying37 rfl (by first | exact sz37 | (rw [S1.out]; exact sz37) | (rw [S2.out]; exact sz37) | (rw [S3.out]; exact sz37)) rfl ?_)) | ((with_reducible refine gate_dst (N := 50) rfl ?_); go_must (refine ev_ldr _ _ rfl rfl (range_at Net.vl ((M.out.slof 5 rfl).range (by omega)) HXK.out) Try.underlying65 rfl (by first | exact sz65 | (rw [S1.out]; exact sz65)) rfl ?_)) | ((with_reducible refine gate_dst (N := 55) rfl ?_); go_must (refine ev_ldr _ _ rfl rfl (range_at Net.vl ((M.out.slof 5 rfl).range (by omega)) HXK.out) Try.underlying65 rfl (by first | exact sz65 | (rw [S1.out]; exact sz65)) rfl ?_)) | (go_at_call 37; go_must (refine (l04Cost_any p HG.out x hpl _).mono ?_); rintro e w_ ⟨rfl, N_⟩; have m := M.out.join N_; clear N_; simp only [List.cons_append, List.nil_append, List.append_nil] at m; have M := Lib.hid m; clear m) | (go_at_call 57; go_must (refine (l04Duties_any x OKX.out c _ _ _ _ ds (by omega) HDT.out _ (M.out.slof 3 rfl) (M.out.slof 4 rfl)).mono ?_); rintro e w_ ⟨rfl, N_⟩; have m := M.out.join N_; clear N_; simp only [List.cons_append, List.nil_append, List.append_nil] at m; have M := Lib.hid m; clear m))
                    refine onward_normal (hK _ _ ⟨(by first | exact M.out | exact M.out.take 6), ?_⟩)
                    clear hK K
                    try simp only [Act.put, List.getElem_toArray, List.getElem_cons_succ, List.getElem_cons_zero, List.setIfInBounds_toArray, List.set_cons_succ, List.set_cons_zero]
                    apply takeH (i := 13) 59 rfl (by kernel_rfl) (by kernel_rfl) (by kernel_rfl) (fun _ _ _ h => h) rfl (by first | exact M.out | exact M.out.take 6)
                    case' hy =>
                      refine Or.inl ⟨by first | rfl | (go_simp; done), ?_⟩
                      intro w hS
                      clear hS
                      go_simp
                      try with_reducible rfl
                    try simp only [Act.put, List.getElem_toArray, List.getElem_cons_succ, List.getElem_cons_zero, List.setIfInBounds_toArray, List.set_cons_succ, List.set_cons_zero]
                    apply takeH (i := 14) 15 rfl (by kernel_rfl) (by kernel_rfl) (by kernel_rfl) (fun _ _ _ h => h) rfl (by first | exact M.out | exact M.out.take 6)
                    case' hy =>
                      refine Or.inl ⟨by first | rfl | (go_simp; done), ?_⟩
                      intro w hS
                      clear hS
                      go_simp
                      try with_reducible rfl
                    try simp only [Act.put, List.getElem_toArray, List.getElem_cons_succ, List.getElem_cons_zero, List.setIfInBounds_toArray, List.set_cons_succ, List.set_cons_zero]
                    refine wpAnyH_done (by kernel_rfl) ?_ _
                all_goals
                  go_wp2
                  exact ⟨⟨i + 1, by omega, by go_num, by rw [HDS2.out], M.out⟩, by simp [intOf]; try omega⟩
            · obtain rfl : i = ns.length := by omega
              have q1 : ¬ ((ns.length : Int) < (ns.length : Int)) := by omega
              obtain ⟨d0, hd0⟩ : ∃ d0, d0 = dFold p c.all ds ns ns.length := ⟨_, rfl⟩
              rw [← hd0] at HDU
              rw [← hd0]
              clear hd0
              go_wp2_with (first
                | ((with_reducible refine gate_dst (N := 3) rfl ?_); go_must (refine M.out.ev_new rfl (by first | (go_simp; done) | (go_simp; rfl)) ?_); intro g3 w3 m; simp only [List.cons_append, List.nil_append] at m; have M := Lib.hid m; clear m)
                | ((with_reducible refine gate_dst (N := 4) rfl ?_); go_must (refine M.out.ev_new rfl (by first | (go_simp; done) | (go_simp; rfl)) ?_); intro g4 w4 m; simp only [List.cons_append, List.nil_append] at m; have M := Lib.hid m; clear m)
                | ((with_reducible refine gate_dst (N := 5) rfl ?_); go_must (refine M.out.ev_new rfl (by first | (go_simp; done) | (go_simp; rfl)) ?_); intro g5 w5 m; simp only [List.cons_append, List.nil_append] at m; have M := Lib.hid m; clear m)
                | ((with_reducible refine gate_dst (N := 16) rfl ?_); go_must (refine M.out.ev_ldw 1 _ _ rfl rfl rfl Try.underlying37 rfl (by first | exact sz37 | (rw [S1.out]; exact sz37) | (rw [S2.out]; exact sz37) | (rw [S3.out]; exact sz37)) rfl ?_))
                | ((with_reducible refine gate_dst (N := 46) rfl ?_); go_must (refine M.out.ev_ldw 1 _ _ rfl rfl rfl Try.underlying37 rfl (by first | exact sz37 | (rw [S1.out]; exact sz37) | (rw [S2.out]; exact sz37) | (rw [S3.out]; exact sz37)) rfl ?_))
                | ((with_reducible refine gate_dst (N := 70) rfl ?_); go_must (refine M.out.ev_bs1 elem_int64 rfl _ rfl #[.int .i64 d0] rfl rfl (by decide) ?_); intro g70 w70 m; simp only [List.cons_append, List.nil_append] at m; have M := Lib.hid m; clear m)
                | ((with_reducible refine gate_dst (N := 71) rfl ?_); go_must (refine M.out.ev_append1 4 6 elem_int64 rfl _ _ rfl rfl rfl rfl rfl rfl (by simp [Value.oneCell']) (by omega) (by decide) ?_); intro v71 w71 m; simp only [List.set_cons_succ, List.set_cons_zero] at m; have M := Lib.hid m; clear m)
                )
              have mm := M.out.take 5
              obtain ⟨B2, cB2, rfl, hcB2, _⟩ := mm.row_slice 4 rfl
              refine ⟨⟨t + 1, by omega, by simp [lenOf]; try omega, by go_num, ?_⟩, by simp [intOf]; try omega⟩
              rw [HDU.out, flat_snoc, List.length_append]
              exact mm
        · obtain rfl : t = c.all.length := by omega
          have i1 : ¬ ((c.all.length : Int) < (c.all.length : Int)) := by omega
          go_wp2
          go_ret2
          rw [HR.out, HC.out]
          exact ⟨_, _, rfl, hcB, M.out.only [4] (K := [_]) rfl (by decide)⟩
    · have HW := Lib.hid hw
      have HR := Lib.hid (show duRes F p c = [] by rw [duRes, if_pos hk, hw]; rfl)
      have HC := Lib.hid (show gCode F p c = 4 by rw [gCode, if_pos hk, hw]; rfl)
      clear hk h1 hw hin
      go_enter Try.func18, Try.ntmps18
      go_wp2_with (first
        | ((with_reducible refine gate_dst (N := 3) rfl ?_); go_must (refine M.out.ev_new rfl (by first | (go_simp; done) | (go_simp; rfl)) ?_); intro g3 w3 m; simp only [List.cons_append, List.nil_append] at m; have M := Lib.hid m; clear m)
        | ((with_reducible refine gate_dst (N := 4) rfl ?_); go_must (refine M.out.ev_new rfl (by first | (go_simp; done) | (go_simp; rfl)) ?_); intro g4 w4 m; simp only [List.cons_append, List.nil_append] at m; have M := Lib.hid m; clear m)
        | ((with_reducible refine gate_dst (N := 5) rfl ?_); go_must (refine M.out.ev_new rfl (by first | (go_simp; done) | (go_simp; rfl)) ?_); intro g5 w5 m; simp only [List.cons_append, List.nil_append] at m; have M := Lib.hid m; clear m)
        | ((with_reducible refine gate_dst (N := 16) rfl ?_); go_must (refine M.out.ev_ldw 1 _ _ rfl rfl rfl Try.underlying37 rfl (by first | exact sz37 | (rw [S1.out]; exact sz37) | (rw [S2.out]; exact sz37) | (rw [S3.out]; exact sz37)) rfl ?_))
        | ((with_reducible refine gate_dst (N := 46) rfl ?_); go_must (refine M.out.ev_ldw 1 _ _ rfl rfl rfl Try.underlying37 rfl (by first | exact sz37 | (rw [S1.out]; exact sz37) | (rw [S2.out]; exact sz37) | (rw [S3.out]; exact sz37)) rfl ?_))
        | (go_at_call 31; go_must (refine (l04Priced_any g3 g5 F HF.out p hp c hc _ (M.out.blk 0 rfl) (M.out.blk 2 rfl)).mono ?_); rintro e w_ ⟨rfl, N_⟩; have m := M.out.join N_; clear N_; simp only [List.cons_append, List.nil_append, List.append_nil] at m; have M := Lib.hid m; clear m; rw [HK.out])
        | (go_at_call 33; go_must (refine (l04Wood_any g3 g5 F HF.out c hc _ (M.out.blk 0 rfl) (M.out.blk 2 rfl)).mono ?_); rintro e w_ ⟨rfl, N_⟩; have m := M.out.join N_; clear N_; simp only [List.cons_append, List.nil_append, List.append_nil] at m; have M := Lib.hid m; clear m; rw [HW.out])
        | ((with_reducible refine gate_dst (N := 25) rfl ?_); go_must (refine M.out.ev_bs0 elem_int64 rfl rfl ?_); intro gv25 wv25 m; simp only [List.cons_append, List.nil_append] at m; have M := Lib.hid m; clear m)
        )
      go_ret2
      rw [HR.out, HC.out]
      exact ⟨_, _, rfl, by simp, M.out.only [3] (K := [_]) rfl (by decide)⟩
  · obtain ⟨d, hd⟩ : ∃ d, d = prCode F p [] c := ⟨_, rfl⟩
    have HR := Lib.hid (show duRes F p c = [] by rw [duRes, if_neg hk])
    have HC := Lib.hid (show gCode F p c = d by rw [gCode, if_neg hk, hd])
    have HD := Lib.hid hd
    rw [← hd] at hk
    clear hd
    go_enter Try.func18, Try.ntmps18
    go_wp2_with (first
      | ((with_reducible refine gate_dst (N := 3) rfl ?_); go_must (refine M.out.ev_new rfl (by first | (go_simp; done) | (go_simp; rfl)) ?_); intro g3 w3 m; simp only [List.cons_append, List.nil_append] at m; have M := Lib.hid m; clear m)
      | ((with_reducible refine gate_dst (N := 4) rfl ?_); go_must (refine M.out.ev_new rfl (by first | (go_simp; done) | (go_simp; rfl)) ?_); intro g4 w4 m; simp only [List.cons_append, List.nil_append] at m; have M := Lib.hid m; clear m)
      | ((with_reducible refine gate_dst (N := 5) rfl ?_); go_must (refine M.out.ev_new rfl (by first | (go_simp; done) | (go_simp; rfl)) ?_); intro g5 w5 m; simp only [List.cons_append, List.nil_append] at m; have M := Lib.hid m; clear m)
      | ((with_reducible refine gate_dst (N := 16) rfl ?_); go_must (refine M.out.ev_ldw 1 _ _ rfl rfl rfl Try.underlying37 rfl (by first | exact sz37 | (rw [S1.out]; exact sz37) | (rw [S2.out]; exact sz37) | (rw [S3.out]; exact sz37)) rfl ?_))
      | ((with_reducible refine gate_dst (N := 46) rfl ?_); go_must (refine M.out.ev_ldw 1 _ _ rfl rfl rfl Try.underlying37 rfl (by first | exact sz37 | (rw [S1.out]; exact sz37) | (rw [S2.out]; exact sz37) | (rw [S3.out]; exact sz37)) rfl ?_))
      | (go_at_call 31; go_must (refine (l04Priced_any g3 g5 F HF.out p hp c hc _ (M.out.blk 0 rfl) (M.out.blk 2 rfl)).mono ?_); rintro e w_ ⟨rfl, N_⟩; have m := M.out.join N_; clear N_; simp only [List.cons_append, List.nil_append, List.append_nil] at m; have M := Lib.hid m; clear m; rw [← HD.out])
      | ((with_reducible refine gate_dst (N := 25) rfl ?_); go_must (refine M.out.ev_bs0 elem_int64 rfl rfl ?_); intro gv25 wv25 m; simp only [List.cons_append, List.nil_append] at m; have M := Lib.hid m; clear m)
      )
    go_ret2
    rw [HR.out, HC.out]
    exact ⟨_, _, rfl, by simp, M.out.only [3] (K := [_]) rfl (by decide)⟩
end Go.Proofs.Ytjkclggdaafmaaa
