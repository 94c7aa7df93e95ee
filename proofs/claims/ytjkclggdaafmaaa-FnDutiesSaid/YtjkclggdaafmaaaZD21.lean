/- Texts of a proof, laid together: Go. -/
import Derived.Test.YtjkclggdaafmaaaZD13
namespace Go.Proofs.Ytjkclggdaafmaaa
set_option linter.unusedSimpArgs false
set_option linter.unusedVariables false
open Go.RowKit
attribute [local go_sem] cell?_mk frozen?_mk
--ONES exact Cs.one _ | exact Net.one _ | exact Prices.one _
theorem bit_int (a j : Nat) : ((a : Int) / 2 ^ j).tmod 2 = ((a / 2 ^ j % 2 : Nat) : Int) := by
  rw [Int.tmod_eq_emod_of_nonneg (Int.ediv_nonneg (by omega) (by exact_mod_cast Nat.zero_le (2 ^ j)))]
  push_cast
  rfl
theorem s4c_done {vn vm vc X bv : Value} {al B : Nat} {s : Sk} {c : Int} {ns : List Net} (h : 0 ≤ c) :
    (((s4c vn vm vc al B bv s).setIfInBounds 6 X).setIfInBounds 7 (.int .i64 c)).setIfInBounds 8 (.bool true) = s4c vn vm vc al B X ⟨s.tries, c, ns⟩ := by
  simp [s4c, h]
set_option maxRecDepth 100000 in
set_option maxHeartbeats 8000000 in
theorem l04Go_step (F : Fld) (hv : F.valid = true) (p : Prices) (hg : p.good = true) (T : Cs) (hT : T.all.length ≤ 12) (sb B base : Nat) (vn vm vc : Value) (hB : B ≤ 20000) (hbs : base ≤ sb) (m : Nat)
    (ih : ∀ (left : Cs) (ns : List Net) (n : Nat) (c : Int) (s : Sk) (bv : Value) (A : Option Addr) (cap : Nat) (w : World), GoIn F p T sb B base m vn vm vc left ns n c s bv A cap w →
      Calls Try.prog 38 #[.pointer (some ⟨sb, 0, none⟩), .slice A n cap, .int .u16 (covN T.all left : Nat), .int .i64 c] w (RetGo w base sb (2 ^ T.all.length - 1) B vn vm vc (seek F p B m left ns c s)))
    (left : Cs) (ns : List Net) (n : Nat) (c : Int) (s : Sk) (bv : Value) (A : Option Addr) (cap : Nat) (w : World) (h : GoIn F p T sb B base (m + 1) vn vm vc left ns n c s bv A cap w) :
    Calls Try.prog 38 #[.pointer (some ⟨sb, 0, none⟩), .slice A n cap, .int .u16 (covN T.all left : Nat), .int .i64 c] w (RetGo w base sb (2 ^ T.all.length - 1) B vn vm vc (seek F p B (m + 1) left ns c s)) := by
    have IH := Lib.hid ih
    clear ih
    have M := Lib.hid (Mem.start w)
    have H := Lib.hid h
    have hB0 := h.bk
    have hsb := h.bk.lt
    have hlen := h.len
    subst hlen
    have hroom := h.room
    have hnl0 := h.nl
    have HFULL := Lib.hid (covN_full h.sub)
    have HSUB := Lib.hid h.sub
    have hcv : covN T.all left < 4096 := bitsOf_u16 _ hT
    obtain ⟨al, hal⟩ : ∃ al, al = 2 ^ T.all.length - 1 := ⟨_, rfl⟩
    have HAL := Lib.hid hal
    rw [← hal] at hB0 HFULL IH ⊢
    have HB := Lib.hid hB0
    obtain ⟨cv, hcvv⟩ : ∃ cv, cv = covN T.all left := ⟨_, rfl⟩
    rw [← hcvv] at hcv HFULL ⊢
    have HCV := Lib.hid hcvv
    clear hal hB0 hcvv
    by_cases hz : left = Cs.z
    · subst hz
      have e1 : ((cv : Int) == (al : Int)) = true := by rw [beq_iff_eq, HFULL.out.2 z_all]
      have HR := Lib.hid (show seek F p B (m + 1) Cs.z ns c s = (true, ⟨s.tries, c, ns⟩) by rw [seek, if_pos z_all])
      clear h
      go_enter Try.func38, Try.ntmps38
      go_wp2_with (first

        | ((with_reducible refine gate_dst (N := 17) rfl ?_); go_must (refine ev_get _ _ rfl rfl ((M.out.arg HB.out).cellv (i := 3) (v := .int .u16 al) (by first | rfl | assumption)) Try.underlying75 rfl rfl ?_))
        | ((with_reducible refine gate_dst (N := 20) rfl ?_); go_must (refine M.out.ev_bs0 elem_Net rfl rfl ?_); intro gv20 wv20 m; simp only [List.cons_append, List.nil_append] at m; have M := Lib.hid m; clear m)
        | ((with_reducible refine gate_dst (N := 22) rfl ?_); go_must (refine M.out.ev_appends 0 elem_Net rfl _ _ rfl rfl rfl rfl (H.out.sl _ (M.out.oth sb)) H.out.empt (by omega) (flat_one Net.ones _) (by omega) (by decide) ?_); intro v22 w22 m; simp only [List.set_cons_succ, List.set_cons_zero, List.nil_append, Nat.zero_add] at m; have M := Lib.hid m; obtain ⟨B22, c22, rfl, hc22, _⟩ := M.out.row_slice 0 rfl; have M := Lib.hid m; clear m)
        | ((with_reducible refine gate_store (x := .tmp 24) rfl ?_); go_must (refine M.out.ev_poke (j := 6) _ _ _ rfl rfl HB.out rfl _ rfl (by simp [s4c]) sz32 rfl rfl ?_); intro v24 w24 m ho24 hb24; have M := Lib.hid m; clear m; have HO24 := Lib.hid ho24; have HB24 := Lib.hid hb24; clear ho24 hb24)
        | ((with_reducible refine gate_store (x := .tmp 28) rfl ?_); go_must (refine M.out.ev_poke (j := 7) _ _ _ rfl rfl HB24.out rfl _ rfl (by simp [s4c]) sz2 rfl rfl ?_); intro v28 w28 m ho28 hb28; have M := Lib.hid m; clear m; have HO28 := Lib.hid ho28; have HB28 := Lib.hid hb28; clear ho28 hb28)
        | ((with_reducible refine gate_store (x := .tmp 31) rfl ?_); go_must (refine M.out.ev_poke (j := 8) _ _ _ rfl rfl HB28.out rfl _ rfl (by simp [s4c]) sz4 rfl rfl ?_); intro v31 w31 m ho31 hb31; have M := Lib.hid m; clear m; have HO31 := Lib.hid ho31; have HB31 := Lib.hid hb31; clear ho31 hb31)
        )
      go_ret
      rw [HR.out]
      have hrow := M.out.row 0 rfl
      have hs1 := HO24.out.size
      have hs2 := HO28.out.size
      have hs3 := HO31.out.size
      have hb31 : Blk _ sb 81 ((((s4c vn vm vc al B bv s).setIfInBounds 6 (.slice B22 ns.length c22)).setIfInBounds 7 (.int .i64 c)).setIfInBounds 8 (.bool true)) := M.out.arg HB31.out
      rw [s4c_done (ns := ns) H.out.c0] at hb31
      refine ⟨_, rfl, HO24.out.trans (HO28.out.trans (HO31.out.trans (M.out.oth sb))), hb31, fun e => ?_, Ent.holds.lower (x := .row _ _ _ _ _) hrow (by omega)⟩
      have := ((M.out.all 0 _ rfl).lt e).1
      omega
    · obtain ⟨r, hall⟩ := h.first hz
      have hne : left.all ≠ [] := by rw [hall]; simp
      have e1 : ((cv : Int) == (al : Int)) = false := by
        rw [← Bool.not_eq_true, beq_iff_eq]
        intro e
        exact hne (HFULL.out.1 (by omega))
      have hk : firstOf left ∈ left.all := by rw [hall]; simp
      have hk1 := (mem_all.1 hk).1
      obtain ⟨t, ht, htk, hbit1, hbit0⟩ := covN_first h.sub hne
      rw [← HCV.out] at hbit1 hbit0
      have h0T : 0 < T.all.length := by omega
      obtain ⟨bn, on, cn, bk, ok, ck, bc, oc, cc, rfl, rfl, rfl, hsh0⟩ := h.shop h0T
      obtain ⟨A1, c1, A2, c2, A3, c3, hsh⟩ := hsh0 t (by rw [htk]; rfl)
      rw [show T.all.getD t 0 = firstOf left by rw [List.getD_eq_getElem?_getD, htk]; rfl] at hsh
      have hnl := netsAt_len hv hk1
      have HNZ := Lib.hid hne
      have HZ := Lib.hid hz
      obtain ⟨L, hL⟩ : ∃ L, L = netsAt F (firstOf left) := ⟨_, rfl⟩
      obtain ⟨R, hR⟩ : ∃ R, R = seek F p B (m + 1) left ns c s := ⟨_, rfl⟩
      have HR := Lib.hid (show skIn p B (seek F p B m) left ns c L s = R by rw [hR, hL, seek, if_neg HNZ.out])
      have HL := Lib.hid hL
      have HC0 := Lib.hid h.c0
      have HC1 := Lib.hid h.c1
      have HK100 := Lib.hid (show ∀ k ∈ T.all, k < 100 from fun k hk => (mem_all.1 hk).1)
      rw [← hL] at hsh hnl
      rw [← hR]
      have HSH := Lib.hid hsh
      have HB1 := Lib.hid hbit1
      have HB0 := Lib.hid hbit0
      have ht0 : (0 : Int) ≤ (t : Int) := by omega
      have ht1 : (t : Int) < (T.all.length : Int) := by omega
      clear h hall hk hsh hsh0 hz hR hL hne hbit1 hbit0 htk hk1
      go_enter Try.func38, Try.ntmps38
      go_wp2_with (first

        | ((with_reducible refine gate_dst (N := 17) rfl ?_); go_must (refine ev_get _ _ rfl rfl ((M.out.arg HB.out).cellv (i := 3) (v := .int .u16 al) (by first | rfl | assumption)) Try.underlying75 rfl rfl ?_))
        )
      go_loopw [9] (fun x wr => ∃ j : Nat, j ≤ t ∧ x = .int .i64 j ∧ Mem w wr [])
        (fun x _ => t - (intOf x).toNat)
      case atStart => exact ⟨0, by omega, rfl, M.out⟩
      case round =>
        clear M
        obtain ⟨j, hj, rfl, m⟩ := hrel
        have M := Lib.hid m
        clear m
        have j0 : (0 : Int) ≤ (j : Int) := by omega
        have ju : IntKind.u64.wrap (j : Int) = j := IntWalk.u64_in _ (by omega)
        have jm : min j 16 = j := by omega
        by_cases hjt : j < t
        · have e2 : (((cv : Int) / 2 ^ j).tmod 2 == 1) = true := by rw [bit_int, HB1.out j hjt]; rfl
          go_wp2
          exact ⟨⟨j + 1, by omega, by go_num, M.out⟩, by simp [intOf]; omega⟩
        · obtain rfl : j = t := by omega
          have e2 : (((cv : Int) / 2 ^ j).tmod 2 == 1) = false := by rw [bit_int, HB0.out]; rfl
          go_wp2
          clear e1 e2 jm ju
          go_loopw [10, 11, 12] (fun x _ _ wr => ∃ (i : Nat) (s' : Sk) (bv' : Value), i ≤ L.length ∧ x = .int .i64 i ∧ Oth sb w wr ∧ Blk wr sb 81 (s4c (.slice (some ⟨bn, on, none⟩) T.all.length cn) (.slice (some ⟨bk, ok, none⟩) T.all.length ck) (.slice (some ⟨bc, oc, none⟩) T.all.length cc) al B bv' s') ∧ Best base sb wr bv' s' ∧ s'.tries ≤ B ∧ skIn p B (seek F p B m) left ns c (L.drop i) s' = R)
            (fun x _ _ _ => L.length - (intOf x).toNat)
          case atStart => exact ⟨0, s, bv, by omega, rfl, M.out.oth sb, M.out.arg HB.out, H.out.best.oth (M.out.oth sb), H.out.tr, by rw [List.drop_zero]; exact HR.out⟩
          case round =>
            clear M HB HR
            obtain ⟨i, s', bv', hi, rfl, hO, hbs', hbest, htr, hsk⟩ := hrel
            have M := Lib.hid (Mem.start wr)
            have HO := Lib.hid hO
            have HB := Lib.hid hbs'
            have HBest := Lib.hid hbest
            have hsb' := hbs'.lt
            clear hO hbs' hbest
            have hSHr := HSH.out _ HO.out
            by_cases hlt : i < L.length
            · obtain ⟨b1, o1, rfl, hr1⟩ := hSHr.2.2.2.1.2 (by omega)
              obtain ⟨b2, o2, rfl, hr2⟩ := hSHr.2.2.2.2.1.2 (by omega)
              obtain ⟨b3, o3, rfl, hr3⟩ := hSHr.2.2.2.2.2.2 (by omega)
              have hxk : L[i]? = some L[i] := List.getElem?_eq_getElem hlt
              have hdrop : L.drop i = L[i] :: L.drop (i + 1) := List.drop_eq_getElem_cons hlt
              have hmem : L[i] ∈ netsAt F (firstOf left) := by rw [← HL.out]; exact List.getElem_mem hlt
              obtain ⟨x, hx⟩ : ∃ x, x = L[i] := ⟨_, rfl⟩
              rw [← hx] at hdrop hmem hxk
              have HXK := Lib.hid hxk
              have HM := Lib.hid hmem
              rw [hdrop] at hsk
              have hcost := (costOk hg (Net.fits_plain (netsAt_fits hmem))).k
              have i0 : (0 : Int) ≤ (i : Int) := by omega
              have i1 : (i : Int) < (L.length : Int) := by omega
              have hlp : 0 < L.length := by omega
              have HLP := Lib.hid hlp
              have hc0 := HC0.out
              have hc1 := HC1.out
              have COR := Lib.hid (covN_or HK100.out left x)
              rw [← HCV.out] at COR
              have hmk : maskN T.all x < 4096 := bitsOf_u16 _ hT
              obtain ⟨a, ha⟩ : ∃ a, a = netCost p x := ⟨_, rfl⟩
              obtain ⟨mk, hmk'⟩ : ∃ mk, mk = maskN T.all x := ⟨_, rfl⟩
              have HA := Lib.hid ha
              rw [← ha] at hcost
              rw [← hmk'] at hmk COR
              have OR := Lib.hid (u16_or_nat cv mk (by omega) (by omega))
              rw [COR.out] at OR
              have orw := OR.out
              have w1 : IntKind.i64.wrap (c + a) = c + a := IntWalk.i64_in _ (by omega)
              have w2 : IntKind.i64.wrap ((s'.tries : Int) + 1) = ((s'.tries + 1 : Nat) : Int) := IntWalk.i64_in _ (by omega)
              have X3 := Lib.hid (show ∀ w', Oth sb w w' → w'.cell? ⟨b3, o3 + i, none⟩ = some (.int .i64 a) from fun w' hw' => by
                have hq := (HSH.out w' hw').2.2.2.2.2.range HLP.out
                have := range_at (enc := oneC p) (sz := 1) (fun _ => rfl) hq HXK.out 0 _ rfl
                rw [ha]
                simpa using this)
              have X2 := Lib.hid (show ∀ w', Oth sb w w' → w'.cell? ⟨b2, o2 + i, none⟩ = some (.int .u16 (mk : Int)) from fun w' hw' => by
                have hq := (HSH.out w' hw').2.2.2.2.1.range HLP.out
                have := range_at (enc := fun x => one16 (maskN T.all x)) (sz := 1) (fun _ => rfl) hq HXK.out 0 _ rfl
                rw [hmk']
                simpa using this)
              clear hSHr hr1 hr2 hr3 hxk hx hdrop hmem ha hmk'
              by_cases q1 : 0 ≤ s'.least
              · have C8 := Lib.hid (show (s4c (.slice (some ⟨bn, on, none⟩) T.all.length cn) (.slice (some ⟨bk, ok, none⟩) T.all.length ck) (.slice (some ⟨bc, oc, none⟩) T.all.length cc) al B bv' s')[8]? = some (.bool true) by simp [s4c, q1])
                have C7 := Lib.hid (show (s4c (.slice (some ⟨bn, on, none⟩) T.all.length cn) (.slice (some ⟨bk, ok, none⟩) T.all.length ck) (.slice (some ⟨bc, oc, none⟩) T.all.length cc) al B bv' s')[7]? = some (.int .i64 s'.least) by simp [s4c, q1])
                by_cases q2 : s'.least ≤ c + a
                · have d2 : decide (s'.least ≤ c + a) = true := decide_eq_true q2
                  have HSK := Lib.hid (skIn_skip (p := p) (B := B) (r := L.drop (i + 1)) (rec := seek F p B m) (left := left) (ns := ns) q1 (by rw [← HA.out]; exact q2))
                  go_wp2_with (first
                    | ((with_reducible refine gate_dst (N := 44) rfl ?_); go_must (refine ev_get _ _ rfl rfl ((M.out.arg HB.out).cellv (i := 0) (v := .slice (some ⟨bn, on, none⟩) T.all.length cn) (by first | rfl | assumption)) Try.underlying77 rfl rfl ?_))
                    | ((with_reducible refine gate_dst (N := 47) rfl ?_); go_must (refine ev_get _ _ rfl rfl ((HSH.out _ (HO.out.trans (M.out.oth sb))).1) Try.underlying32 rfl rfl ?_))
                    | ((with_reducible refine gate_dst (N := 56) rfl ?_); go_must (refine ev_get _ _ rfl rfl ((M.out.arg HB.out).cellv (i := 2) (v := .slice (some ⟨bc, oc, none⟩) T.all.length cc) (by first | rfl | assumption)) Try.underlying79 rfl rfl ?_))
                    | ((with_reducible refine gate_dst (N := 59) rfl ?_); go_must (refine ev_get _ _ rfl rfl ((HSH.out _ (HO.out.trans (M.out.oth sb))).2.2.1) Try.underlying49 rfl rfl ?_))
                    | ((with_reducible refine gate_dst (N := 62) rfl ?_); go_must (refine ev_get _ _ rfl rfl (X3.out _ (HO.out.trans (M.out.oth sb))) Try.underlying2 rfl rfl ?_))
                    | ((with_reducible refine gate_dst (N := 67) rfl ?_); go_must (refine ev_get _ _ rfl rfl ((M.out.arg HB.out).cellv (i := 8) C8.out) Try.underlying4 rfl rfl ?_))
                    | ((with_reducible refine gate_dst (N := 73) rfl ?_); refine gate_want rfl ?_; go_must (refine ev_get _ _ rfl rfl ((M.out.arg HB.out).cellv (i := 7) C7.out) Try.underlying2 rfl rfl ?_))
                    )
                  exact ⟨⟨i + 1, s', bv', by omega, by go_num, HO.out.trans (M.out.oth sb), M.out.arg HB.out, HBest.out.oth (M.out.oth sb), htr, by rw [← HSK.out]; exact hsk⟩, by simp [intOf]; omega⟩
                · have d2 : decide (s'.least ≤ c + a) = false := decide_eq_false q2
                  have hno : ¬ (0 ≤ s'.least ∧ s'.least ≤ c + netCost p x) := fun h => q2 (by rw [HA.out]; exact h.2)
                  have HNO := Lib.hid hno
                  clear hno
                  by_cases q3 : s'.tries = B
                  · have q3b : ((s'.tries : Int) == (B : Int)) = true := by rw [beq_iff_eq, q3]
                    have HSK := Lib.hid (skIn_out (p := p) (B := B) (r := L.drop (i + 1)) (rec := seek F p B m) (left := left) (ns := ns) HNO.out q3)
                    go_wp2_with (first
                      | ((with_reducible refine gate_dst (N := 44) rfl ?_); go_must (refine ev_get _ _ rfl rfl ((M.out.arg HB.out).cellv (i := 0) (v := .slice (some ⟨bn, on, none⟩) T.all.length cn) (by first | rfl | assumption)) Try.underlying77 rfl rfl ?_))
                      | ((with_reducible refine gate_dst (N := 47) rfl ?_); go_must (refine ev_get _ _ rfl rfl ((HSH.out _ (HO.out.trans (M.out.oth sb))).1) Try.underlying32 rfl rfl ?_))
                      | ((with_reducible refine gate_dst (N := 56) rfl ?_); go_must (refine ev_get _ _ rfl rfl ((M.out.arg HB.out).cellv (i := 2) (v := .slice (some ⟨bc, oc, none⟩) T.all.length cc) (by first | rfl | assumption)) Try.underlying79 rfl rfl ?_))
                      | ((with_reducible refine gate_dst (N := 59) rfl ?_); go_must (refine ev_get _ _ rfl rfl ((HSH.out _ (HO.out.trans (M.out.oth sb))).2.2.1) Try.underlying49 rfl rfl ?_))
                      | ((with_reducible refine gate_dst (N := 62) rfl ?_); go_must (refine ev_get _ _ rfl rfl (X3.out _ (HO.out.trans (M.out.oth sb))) Try.underlying2 rfl rfl ?_))
                      | ((with_reducible refine gate_dst (N := 67) rfl ?_); go_must (refine ev_get _ _ rfl rfl ((M.out.arg HB.out).cellv (i := 8) C8.out) Try.underlying4 rfl rfl ?_))
                      | ((with_reducible refine gate_dst (N := 73) rfl ?_); refine gate_want rfl ?_; go_must (refine ev_get _ _ rfl rfl ((M.out.arg HB.out).cellv (i := 7) C7.out) Try.underlying2 rfl rfl ?_))
                      )
                    refine region_anyH (fun w' => Mem wr w' []) (by kernel_rfl) ?_
                    have m := M.out.drew
                    clear M
                    have M := Lib.hid m
                    clear m
                    apply takeH (i := 0) 76 rfl (by kernel_rfl) (by kernel_rfl) (by kernel_rfl) (fun _ _ _ h => h) rfl (by first | exact M.out | exact M.out.take 0)
                    case' hy =>
                      refine Or.inl ⟨by first | rfl | (go_simp; done), ?_⟩
                      intro w hS
                      clear hS
                      go_simp
                      try with_reducible rfl
                    try simp only [Act.put, List.getElem_toArray, List.getElem_cons_succ, List.getElem_cons_zero, List.setIfInBounds_toArray, List.set_cons_succ, List.set_cons_zero]
                    apply takeH (i := 1) 77 rfl (by kernel_rfl) (by kernel_rfl) (by kernel_rfl) (fun _ _ _ h => h) rfl (by first | exact M.out | exact M.out.take 0)
                    case' hy =>
                      refine Or.inl ⟨by first | rfl | (go_simp; done), ?_⟩
                      intro w hS
                      clear hS
                      go_simp
                      try with_reducible rfl
                    try simp only [Act.put, List.getElem_toArray, List.getElem_cons_succ, List.getElem_cons_zero, List.setIfInBounds_toArray, List.set_cons_succ, List.set_cons_zero]
                    apply takeH (i := 2) 78 rfl (by kernel_rfl) (by kernel_rfl) (by kernel_rfl) (fun _ _ _ h => h) rfl (by first | exact M.out | exact M.out.take 0)
                    case' hy =>
                      refine Or.inl ⟨by first | rfl | (go_simp; done), ?_⟩
                      intro w hS
                      clear hS
                      go_simp
                      try with_reducible rfl
                    try simp only [Act.put, List.getElem_toArray, List.getElem_cons_succ, List.getElem_cons_zero, List.setIfInBounds_toArray, List.set_cons_succ, List.set_cons_zero]
                    apply takeH (i := 3) 79 rfl (by kernel_rfl) (by kernel_rfl) (by kernel_rfl) (fun _ _ _ h => h) rfl (by first | exact M.out | exact M.out.take 0)
                    case' hy => exact ylds _ _ rfl rfl Try.underlying2 rfl rfl (fun w' hS => (hS.arg HB.out).cellv (i := 5) (v := .int .i64 s'.tries) rfl)
                    try simp only [Act.put, List.getElem_toArray, List.getElem_cons_succ, List.getElem_cons_zero, List.setIfInBounds_toArray, List.set_cons_succ, List.set_cons_zero]
                    apply takeH (i := 4) 80 rfl (by kernel_rfl) (by kernel_rfl) (by kernel_rfl) (fun _ _ _ h => h) rfl (by first | exact M.out | exact M.out.take 0)
                    case' hy =>
                      refine Or.inl ⟨by first | rfl | (go_simp; done), ?_⟩
                      intro w hS
                      clear hS
                      go_simp
                      try with_reducible rfl
                    try simp only [Act.put, List.getElem_toArray, List.getElem_cons_succ, List.getElem_cons_zero, List.setIfInBounds_toArray, List.set_cons_succ, List.set_cons_zero]
                    apply takeH (i := 5) 81 rfl (by kernel_rfl) (by kernel_rfl) (by kernel_rfl) (fun _ _ _ h => h) rfl (by first | exact M.out | exact M.out.take 0)
                    case' hy =>
                      refine Or.inl ⟨by first | rfl | (go_simp; done), ?_⟩
                      intro w hS
                      clear hS
                      go_simp
                      try with_reducible rfl
                    try simp only [Act.put, List.getElem_toArray, List.getElem_cons_succ, List.getElem_cons_zero, List.setIfInBounds_toArray, List.set_cons_succ, List.set_cons_zero]
                    apply takeH (i := 6) 82 rfl (by kernel_rfl) (by kernel_rfl) (by kernel_rfl) (fun _ _ _ h => h) rfl (by first | exact M.out | exact M.out.take 0)
                    case' hy =>
                      refine Or.inl ⟨by first | rfl | (go_simp; done), ?_⟩
                      intro w hS
                      clear hS
                      go_simp
                      try with_reducible rfl
                    try simp only [Act.put, List.getElem_toArray, List.getElem_cons_succ, List.getElem_cons_zero, List.setIfInBounds_toArray, List.set_cons_succ, List.set_cons_zero]
                    apply takeH (i := 7) 83 rfl (by kernel_rfl) (by kernel_rfl) (by kernel_rfl) (fun _ _ _ h => h) rfl (by first | exact M.out | exact M.out.take 0)
                    case' hy => exact ylds _ _ rfl rfl Try.underlying2 rfl rfl (fun w' hS => (hS.arg HB.out).cellv (i := 4) (v := .int .i64 B) rfl)
                    try simp only [Act.put, List.getElem_toArray, List.getElem_cons_succ, List.getElem_cons_zero, List.setIfInBounds_toArray, List.set_cons_succ, List.set_cons_zero]
                    apply takeH (i := 8) 84 rfl (by kernel_rfl) (by kernel_rfl) (by kernel_rfl) (fun _ _ _ h => h) rfl (by first | exact M.out | exact M.out.take 0)
                    case' hy =>
                      refine Or.inl ⟨by first | rfl | (go_simp; done), ?_⟩
                      intro w hS
                      clear hS
                      go_simp
                      try with_reducible rfl
                    try simp only [Act.put, List.getElem_toArray, List.getElem_cons_succ, List.getElem_cons_zero, List.setIfInBounds_toArray, List.set_cons_succ, List.set_cons_zero]
                    refine wpAnyH_done (by kernel_rfl) ?_ _
                    go_wp2
                    go_ret
                    refine ⟨bv', (by rw [← hsk]; exact congrArg (fun q => Ending.returned (.bool (Prod.fst q))) HSK.out.symm), HO.out.trans (M.out.oth sb), ?_, ?_⟩
                    · rw [← hsk, HSK.out]; exact M.out.arg HB.out
                    · rw [← hsk, HSK.out]; exact HBest.out.oth (M.out.oth sb)
                  · have q3b : ((s'.tries : Int) == (B : Int)) = false := by rw [← Bool.not_eq_true, beq_iff_eq]; omega
                    have HT3 := Lib.hid (seek_tries (F := F) (p := p) (B := B) m (left.without (netSet x)) (ns ++ [x]) (c + a) ⟨s'.tries + 1, s'.least, s'.best⟩ (by show s'.tries + 1 ≤ B; omega))
                    have HSK := Lib.hid (fun q hq => skIn_in (p := p) (B := B) (r := L.drop (i + 1)) (rec := seek F p B m) (left := left) (ns := ns) (q := q) HNO.out q3 hq)
                    rw [← HA.out] at HSK
                    go_wp2_with (first
                      | ((with_reducible refine gate_dst (N := 44) rfl ?_); go_must (refine ev_get _ _ rfl rfl ((M.out.arg HB.out).cellv (i := 0) (v := .slice (some ⟨bn, on, none⟩) T.all.length cn) (by first | rfl | assumption)) Try.underlying77 rfl rfl ?_))
                      | ((with_reducible refine gate_dst (N := 47) rfl ?_); go_must (refine ev_get _ _ rfl rfl ((HSH.out _ (HO.out.trans (M.out.oth sb))).1) Try.underlying32 rfl rfl ?_))
                      | ((with_reducible refine gate_dst (N := 56) rfl ?_); go_must (refine ev_get _ _ rfl rfl ((M.out.arg HB.out).cellv (i := 2) (v := .slice (some ⟨bc, oc, none⟩) T.all.length cc) (by first | rfl | assumption)) Try.underlying79 rfl rfl ?_))
                      | ((with_reducible refine gate_dst (N := 59) rfl ?_); go_must (refine ev_get _ _ rfl rfl ((HSH.out _ (HO.out.trans (M.out.oth sb))).2.2.1) Try.underlying49 rfl rfl ?_))
                      | ((with_reducible refine gate_dst (N := 62) rfl ?_); go_must (refine ev_get _ _ rfl rfl (X3.out _ (HO.out.trans (M.out.oth sb))) Try.underlying2 rfl rfl ?_))
                      | ((with_reducible refine gate_dst (N := 67) rfl ?_); go_must (refine ev_get _ _ rfl rfl ((M.out.arg HB.out).cellv (i := 8) C8.out) Try.underlying4 rfl rfl ?_))
                      | ((with_reducible refine gate_dst (N := 73) rfl ?_); refine gate_want rfl ?_; go_must (refine ev_get _ _ rfl rfl ((M.out.arg HB.out).cellv (i := 7) C7.out) Try.underlying2 rfl rfl ?_))
                      )
                    refine region_anyH (fun w' => Mem wr w' []) (by kernel_rfl) ?_
                    have m := M.out.drew
                    clear M
                    have M := Lib.hid m
                    clear m
                    apply takeH (i := 0) 76 rfl (by kernel_rfl) (by kernel_rfl) (by kernel_rfl) (fun _ _ _ h => h) rfl (by first | exact M.out | exact M.out.take 0)
                    case' hy =>
                      refine Or.inl ⟨by first | rfl | (go_simp; done), ?_⟩
                      intro w hS
                      clear hS
                      go_simp
                      try with_reducible rfl
                    try simp only [Act.put, List.getElem_toArray, List.getElem_cons_succ, List.getElem_cons_zero, List.setIfInBounds_toArray, List.set_cons_succ, List.set_cons_zero]
                    apply takeH (i := 1) 77 rfl (by kernel_rfl) (by kernel_rfl) (by kernel_rfl) (fun _ _ _ h => h) rfl (by first | exact M.out | exact M.out.take 0)
                    case' hy =>
                      refine Or.inl ⟨by first | rfl | (go_simp; done), ?_⟩
                      intro w hS
                      clear hS
                      go_simp
                      try with_reducible rfl
                    try simp only [Act.put, List.getElem_toArray, List.getElem_cons_succ, List.getElem_cons_zero, List.setIfInBounds_toArray, List.set_cons_succ, List.set_cons_zero]
                    apply takeH (i := 2) 78 rfl (by kernel_rfl) (by kernel_rfl) (by kernel_rfl) (fun _ _ _ h => h) rfl (by first | exact M.out | exact M.out.take 0)
                    case' hy =>
                      refine Or.inl ⟨by first | rfl | (go_simp; done), ?_⟩
                      intro w hS
                      clear hS
                      go_simp
                      try with_reducible rfl
                    try simp only [Act.put, List.getElem_toArray, List.getElem_cons_succ, List.getElem_cons_zero, List.setIfInBounds_toArray, List.set_cons_succ, List.set_cons_zero]
                    apply takeH (i := 3) 79 rfl (by kernel_rfl) (by kernel_rfl) (by kernel_rfl) (fun _ _ _ h => h) rfl (by first | exact M.out | exact M.out.take 0)
                    case' hy => exact ylds _ _ rfl rfl Try.underlying2 rfl rfl (fun w' hS => (hS.arg HB.out).cellv (i := 5) (v := .int .i64 s'.tries) rfl)
                    try simp only [Act.put, List.getElem_toArray, List.getElem_cons_succ, List.getElem_cons_zero, List.setIfInBounds_toArray, List.set_cons_succ, List.set_cons_zero]
                    apply takeH (i := 4) 80 rfl (by kernel_rfl) (by kernel_rfl) (by kernel_rfl) (fun _ _ _ h => h) rfl (by first | exact M.out | exact M.out.take 0)
                    case' hy =>
                      refine Or.inl ⟨by first | rfl | (go_simp; done), ?_⟩
                      intro w hS
                      clear hS
                      go_simp
                      try with_reducible rfl
                    try simp only [Act.put, List.getElem_toArray, List.getElem_cons_succ, List.getElem_cons_zero, List.setIfInBounds_toArray, List.set_cons_succ, List.set_cons_zero]
                    apply takeH (i := 5) 81 rfl (by kernel_rfl) (by kernel_rfl) (by kernel_rfl) (fun _ _ _ h => h) rfl (by first | exact M.out | exact M.out.take 0)
                    case' hy =>
                      refine Or.inl ⟨by first | rfl | (go_simp; done), ?_⟩
                      intro w hS
                      clear hS
                      go_simp
                      try with_reducible rfl
                    try simp only [Act.put, List.getElem_toArray, List.getElem_cons_succ, List.getElem_cons_zero, List.setIfInBounds_toArray, List.set_cons_succ, List.set_cons_zero]
                    apply takeH (i := 6) 82 rfl (by kernel_rfl) (by kernel_rfl) (by kernel_rfl) (fun _ _ _ h => h) rfl (by first | exact M.out | exact M.out.take 0)
                    case' hy =>
                      refine Or.inl ⟨by first | rfl | (go_simp; done), ?_⟩
                      intro w hS
                      clear hS
                      go_simp
                      try with_reducible rfl
                    try simp only [Act.put, List.getElem_toArray, List.getElem_cons_succ, List.getElem_cons_zero, List.setIfInBounds_toArray, List.set_cons_succ, List.set_cons_zero]
                    apply takeH (i := 7) 83 rfl (by kernel_rfl) (by kernel_rfl) (by kernel_rfl) (fun _ _ _ h => h) rfl (by first | exact M.out | exact M.out.take 0)
                    case' hy => exact ylds _ _ rfl rfl Try.underlying2 rfl rfl (fun w' hS => (hS.arg HB.out).cellv (i := 4) (v := .int .i64 B) rfl)
                    try simp only [Act.put, List.getElem_toArray, List.getElem_cons_succ, List.getElem_cons_zero, List.setIfInBounds_toArray, List.set_cons_succ, List.set_cons_zero]
                    apply takeH (i := 8) 84 rfl (by kernel_rfl) (by kernel_rfl) (by kernel_rfl) (fun _ _ _ h => h) rfl (by first | exact M.out | exact M.out.take 0)
                    case' hy =>
                      refine Or.inl ⟨by first | rfl | (go_simp; done), ?_⟩
                      intro w hS
                      clear hS
                      go_simp
                      try with_reducible rfl
                    try simp only [Act.put, List.getElem_toArray, List.getElem_cons_succ, List.getElem_cons_zero, List.setIfInBounds_toArray, List.set_cons_succ, List.set_cons_zero]
                    refine wpAnyH_done (by kernel_rfl) ?_ _
                    go_wp2_with (first
                      | ((with_reducible refine gate_dst (N := 88) rfl ?_); go_must (refine ev_get _ _ rfl rfl ((M.out.arg HB.out).cellv (i := 5) (v := .int .i64 s'.tries) (by first | rfl | assumption)) Try.underlying2 rfl rfl ?_))
                      | ((with_reducible refine gate_store (x := .tmp 91) rfl ?_); go_must (refine M.out.ev_poke (j := 5) _ _ _ rfl rfl HB.out rfl _ rfl (by simp [s4c]) sz2 rfl rfl ?_); intro v91 w91 m ho91 hb91; have M := Lib.hid m; clear m; have HO91 := Lib.hid ho91; have HX91 := Lib.hid hb91; clear ho91 hb91)
                      )
                    have hlt91 : sb < v91.heap.size := HX91.out.lt
                    have HLT := Lib.hid hlt91
                    have HOX := Lib.hid (HO.out.trans HO91.out)
                    have hx91 : Blk v91 sb 81 (s4c (.slice (some ⟨bn, on, none⟩) T.all.length cn) (.slice (some ⟨bk, ok, none⟩) T.all.length ck) (.slice (some ⟨bc, oc, none⟩) T.all.length cc) al B bv' ⟨s'.tries + 1, s'.least, s'.best⟩) := HX91.out
                    clear HX91
                    have HX91 := Lib.hid hx91
                    clear hx91 hlt91
                    refine region_anyH (fun w' => Mem v91 w' []) (by kernel_rfl) ?_
                    have m := M.out.drew
                    clear M
                    have M := Lib.hid m
                    clear m
                    apply takeH (i := 1) 93 rfl (by kernel_rfl) (by kernel_rfl) (by kernel_rfl) (fun _ _ _ h => h) rfl (by exact M.out.take 0)
                    case' hy =>
                      refine Or.inl ⟨by first | rfl | (go_simp; done), ?_⟩
                      intro w hS
                      clear hS
                      go_simp
                      try with_reducible rfl
                    try simp only [Act.put, List.getElem_toArray, List.getElem_cons_succ, List.getElem_cons_zero, List.setIfInBounds_toArray, List.set_cons_succ, List.set_cons_zero]
                    apply takeH (i := 3) 95 rfl (by kernel_rfl) (by kernel_rfl) (by kernel_rfl) (fun _ _ _ h => h) rfl (by exact M.out.take 0)
                    case' hy =>
                      refine Or.inl ⟨by first | rfl | (go_simp; done), ?_⟩
                      intro w hS
                      clear hS
                      go_simp
                      try with_reducible rfl
                    try simp only [Act.put, List.getElem_toArray, List.getElem_cons_succ, List.getElem_cons_zero, List.setIfInBounds_toArray, List.set_cons_succ, List.set_cons_zero]
                    apply takeH (i := 4) 96 rfl (by kernel_rfl) (by kernel_rfl) (by kernel_rfl) (fun _ _ _ h => h) rfl (by exact M.out.take 0)
                    case' hy =>
                      refine Or.inl ⟨by first | rfl | (go_simp; done), ?_⟩
                      intro w hS
                      clear hS
                      go_simp
                      try with_reducible rfl
                    try simp only [Act.put, List.getElem_toArray, List.getElem_cons_succ, List.getElem_cons_zero, List.setIfInBounds_toArray, List.set_cons_succ, List.set_cons_zero]
                    apply takeH (i := 5) 97 rfl (by kernel_rfl) (by kernel_rfl) (by kernel_rfl) (fun _ _ _ h => h) rfl (by exact M.out.take 0)
                    case' hy =>
                      refine Or.inl ⟨by first | rfl | (go_simp; done), ?_⟩
                      intro w hS
                      clear hS
                      go_simp
                      try with_reducible rfl
                    try simp only [Act.put, List.getElem_toArray, List.getElem_cons_succ, List.getElem_cons_zero, List.setIfInBounds_toArray, List.set_cons_succ, List.set_cons_zero]
                    apply takeH (i := 6) 98 rfl (by kernel_rfl) (by kernel_rfl) (by kernel_rfl) (fun _ _ _ h => h) rfl (by exact M.out.take 0)
                    case' hy => exact ylds _ _ rfl rfl Try.underlying77 rfl rfl (fun w' hS => (hS.arg HX91.out).cellv (i := 0) (v := .slice (some ⟨bn, on, none⟩) T.all.length cn) rfl)
                    try simp only [Act.put, List.getElem_toArray, List.getElem_cons_succ, List.getElem_cons_zero, List.setIfInBounds_toArray, List.set_cons_succ, List.set_cons_zero]
                    apply takeH (i := 7) 99 rfl (by kernel_rfl) (by kernel_rfl) (by kernel_rfl) (fun _ _ _ h => h) rfl (by exact M.out.take 0)
                    case' hy =>
                      refine Or.inl ⟨by first | rfl | (go_simp; done), ?_⟩
                      intro w hS
                      clear hS
                      go_simp
                      try with_reducible rfl
                    try simp only [Act.put, List.getElem_toArray, List.getElem_cons_succ, List.getElem_cons_zero, List.setIfInBounds_toArray, List.set_cons_succ, List.set_cons_zero]
                    apply takeH (i := 8) 100 rfl (by kernel_rfl) (by kernel_rfl) (by kernel_rfl) (fun _ _ _ h => h) rfl (by exact M.out.take 0)
                    case' hy =>
                      refine Or.inl ⟨by first | rfl | (go_simp; done), ?_⟩
                      intro w hS
                      clear hS
                      go_simp
                      try with_reducible rfl
                    try simp only [Act.put, List.getElem_toArray, List.getElem_cons_succ, List.getElem_cons_zero, List.setIfInBounds_toArray, List.set_cons_succ, List.set_cons_zero]
                    apply takeH (i := 9) 101 rfl (by kernel_rfl) (by kernel_rfl) (by kernel_rfl) (fun _ _ _ h => h) rfl (by exact M.out.take 0)
                    case' hy => exact ylds _ _ rfl rfl Try.underlying32 rfl rfl (fun w' hS => (HSH.out w' (HOX.out.trans (hS.oth sb))).1)
                    try simp only [Act.put, List.getElem_toArray, List.getElem_cons_succ, List.getElem_cons_zero, List.setIfInBounds_toArray, List.set_cons_succ, List.set_cons_zero]
                    apply takeH (i := 10) 102 rfl (by kernel_rfl) (by kernel_rfl) (by kernel_rfl) (fun _ _ _ h => h) rfl (by exact M.out.take 0)
                    case' hy =>
                      refine Or.inl ⟨by first | rfl | (go_simp; done), ?_⟩
                      intro w hS
                      clear hS
                      go_simp
                      try with_reducible rfl
                    try simp only [Act.put, List.getElem_toArray, List.getElem_cons_succ, List.getElem_cons_zero, List.setIfInBounds_toArray, List.set_cons_succ, List.set_cons_zero]
                    apply takeH (i := 11) 103 rfl (by kernel_rfl) (by kernel_rfl) (by kernel_rfl) (fun _ _ _ h => h) rfl (by exact M.out.take 0)
                    case' hy =>
                      refine Or.inl ⟨by first | rfl | (go_simp; done), ?_⟩
                      intro w hS
                      clear hS
                      go_simp
                      try with_reducible rfl
                    try simp only [Act.put, List.getElem_toArray, List.getElem_cons_succ, List.getElem_cons_zero, List.setIfInBounds_toArray, List.set_cons_succ, List.set_cons_zero]
                    apply takeH (i := 12) 104 rfl (by kernel_rfl) (by kernel_rfl) (by kernel_rfl) (fun _ _ _ h => h) rfl (by exact M.out.take 0)
                    case' hy => exact yieldsIf_load_mid (by first | rfl | (go_simp; done)) _ _ rfl _ _ rfl _ _ (fun w' hS => range_at Net.vl ((HSH.out w' (HOX.out.trans (hS.oth sb))).2.2.2.1.range HLP.out) HXK.out) Try.underlying65 rfl sz65
                    try simp only [Act.put, List.getElem_toArray, List.getElem_cons_succ, List.getElem_cons_zero, List.setIfInBounds_toArray, List.set_cons_succ, List.set_cons_zero]
                    refine any2H 0 13 (by kernel_rfl) rfl rfl (fun K hK => ?_) (fun K hK => ?_)
                    rotate_right 1
                    case' _ =>
                      go_wp2_with (first | ((with_reducible refine gate_dst (N := 92) rfl ?_); go_must (refine M.out.ev_bs0 elem_Net rfl rfl ?_); intro gv92 wv92 m; simp only [List.cons_append, List.nil_append] at m; have M := Lib.hid m; clear m) | ((with_reducible refine gate_dst (N := 94) rfl ?_); go_must (first | (refine M.out.ev_appends 0 elem_Net rfl _ _ rfl rfl rfl rfl (H.out.sl _ (HOX.out.trans (M.out.oth sb))) H.out.empt (by omega) (flat_one Net.ones _) (by have := H.out.nl; omega) (by decide) ?_) | (refine M.out.ev_appends 1 elem_Net rfl _ _ rfl rfl rfl rfl (H.out.sl _ (HOX.out.trans (M.out.oth sb))) H.out.empt (by omega) (flat_one Net.ones _) (by have := H.out.nl; omega) (by decide) ?_)); intro v94 w94 m; simp only [List.set_cons_succ, List.set_cons_zero, List.nil_append, Nat.zero_add] at m; have M := Lib.hid m; clear m) | ((with_reducible refine gate_dst (N := 105) rfl ?_); go_must (refine M.out.ev_bs1 elem_Net rfl _ rfl x.vals.toArray rfl rfl (by decide) ?_); intro g105 w105 m; simp only [List.cons_append, List.nil_append] at m; have M := Lib.hid m; clear m) | ((with_reducible refine gate_dst (N := 106) rfl ?_); go_must (first | (refine M.out.ev_append1 0 1 elem_Net rfl _ _ rfl rfl rfl rfl rfl rfl (Net.one x) (by have := H.out.nl; omega) (by decide) ?_; intro v106 w106 m; simp only [List.set_cons_succ, List.set_cons_zero] at m; obtain ⟨B106, c106, rfl, hc106, _⟩ := m.row_slice 0 rfl; have HIN := Lib.hid (H.out.next hg HZ.out HM.out (s' := s') (bv' := bv') (v := v91) (HOX.out.trans (m.oth sb)) (by rw [← HAL.out]; exact m.arg HX91.out) (HBest.out.oth (HO91.out.trans (m.oth sb))) (by omega) (m.row 0 rfl) HLT.out hc106 (m.row_none 0 rfl))) | (refine M.out.ev_append1 1 0 elem_Net rfl _ _ rfl rfl rfl rfl rfl rfl (Net.one x) (by have := H.out.nl; omega) (by decide) ?_; intro v106 w106 m; simp only [List.set_cons_succ, List.set_cons_zero] at m; obtain ⟨B106, c106, rfl, hc106, _⟩ := m.row_slice 1 rfl; have HIN := Lib.hid (H.out.next hg HZ.out HM.out (s' := s') (bv' := bv') (v := v91) (HOX.out.trans (m.oth sb)) (by rw [← HAL.out]; exact m.arg HX91.out) (HBest.out.oth (HO91.out.trans (m.oth sb))) (by omega) (m.row 1 rfl) HLT.out hc106 (m.row_none 1 rfl)))); rw [← HA.out] at HIN; have M := Lib.hid m; clear m))
                      refine onward_normal (hK _ _ ⟨(by exact M.out.take 0), ?_⟩)
                      clear hK K
                      try simp only [Act.put, List.getElem_toArray, List.getElem_cons_succ, List.getElem_cons_zero, List.setIfInBounds_toArray, List.set_cons_succ, List.set_cons_zero]
                      refine any1H 0 (by kernel_rfl) rfl (fun K hK => ?_)
                      go_wp2_with (first | ((with_reducible refine gate_dst (N := 92) rfl ?_); go_must (refine M.out.ev_bs0 elem_Net rfl rfl ?_); intro gv92 wv92 m; simp only [List.cons_append, List.nil_append] at m; have M := Lib.hid m; clear m) | ((with_reducible refine gate_dst (N := 94) rfl ?_); go_must (first | (refine M.out.ev_appends 0 elem_Net rfl _ _ rfl rfl rfl rfl (H.out.sl _ (HOX.out.trans (M.out.oth sb))) H.out.empt (by omega) (flat_one Net.ones _) (by have := H.out.nl; omega) (by decide) ?_) | (refine M.out.ev_appends 1 elem_Net rfl _ _ rfl rfl rfl rfl (H.out.sl _ (HOX.out.trans (M.out.oth sb))) H.out.empt (by omega) (flat_one Net.ones _) (by have := H.out.nl; omega) (by decide) ?_)); intro v94 w94 m; simp only [List.set_cons_succ, List.set_cons_zero, List.nil_append, Nat.zero_add] at m; have M := Lib.hid m; clear m) | ((with_reducible refine gate_dst (N := 105) rfl ?_); go_must (refine M.out.ev_bs1 elem_Net rfl _ rfl x.vals.toArray rfl rfl (by decide) ?_); intro g105 w105 m; simp only [List.cons_append, List.nil_append] at m; have M := Lib.hid m; clear m) | ((with_reducible refine gate_dst (N := 106) rfl ?_); go_must (first | (refine M.out.ev_append1 0 1 elem_Net rfl _ _ rfl rfl rfl rfl rfl rfl (Net.one x) (by have := H.out.nl; omega) (by decide) ?_; intro v106 w106 m; simp only [List.set_cons_succ, List.set_cons_zero] at m; obtain ⟨B106, c106, rfl, hc106, _⟩ := m.row_slice 0 rfl; have HIN := Lib.hid (H.out.next hg HZ.out HM.out (s' := s') (bv' := bv') (v := v91) (HOX.out.trans (m.oth sb)) (by rw [← HAL.out]; exact m.arg HX91.out) (HBest.out.oth (HO91.out.trans (m.oth sb))) (by omega) (m.row 0 rfl) HLT.out hc106 (m.row_none 0 rfl))) | (refine M.out.ev_append1 1 0 elem_Net rfl _ _ rfl rfl rfl rfl rfl rfl (Net.one x) (by have := H.out.nl; omega) (by decide) ?_; intro v106 w106 m; simp only [List.set_cons_succ, List.set_cons_zero] at m; obtain ⟨B106, c106, rfl, hc106, _⟩ := m.row_slice 1 rfl; have HIN := Lib.hid (H.out.next hg HZ.out HM.out (s' := s') (bv' := bv') (v := v91) (HOX.out.trans (m.oth sb)) (by rw [← HAL.out]; exact m.arg HX91.out) (HBest.out.oth (HO91.out.trans (m.oth sb))) (by omega) (m.row 1 rfl) HLT.out hc106 (m.row_none 1 rfl)))); rw [← HA.out] at HIN; have M := Lib.hid m; clear m))
                      refine onward_normal (hK _ _ ⟨(by exact M.out.take 0), ?_⟩)
                      clear hK K
                      try simp only [Act.put, List.getElem_toArray, List.getElem_cons_succ, List.getElem_cons_zero, List.setIfInBounds_toArray, List.set_cons_succ, List.set_cons_zero]
                      refine any1H 2 (by kernel_rfl) rfl (fun K hK => ?_)
                      go_wp2_with (first | ((with_reducible refine gate_dst (N := 92) rfl ?_); go_must (refine M.out.ev_bs0 elem_Net rfl rfl ?_); intro gv92 wv92 m; simp only [List.cons_append, List.nil_append] at m; have M := Lib.hid m; clear m) | ((with_reducible refine gate_dst (N := 94) rfl ?_); go_must (first | (refine M.out.ev_appends 0 elem_Net rfl _ _ rfl rfl rfl rfl (H.out.sl _ (HOX.out.trans (M.out.oth sb))) H.out.empt (by omega) (flat_one Net.ones _) (by have := H.out.nl; omega) (by decide) ?_) | (refine M.out.ev_appends 1 elem_Net rfl _ _ rfl rfl rfl rfl (H.out.sl _ (HOX.out.trans (M.out.oth sb))) H.out.empt (by omega) (flat_one Net.ones _) (by have := H.out.nl; omega) (by decide) ?_)); intro v94 w94 m; simp only [List.set_cons_succ, List.set_cons_zero, List.nil_append, Nat.zero_add] at m; have M := Lib.hid m; clear m) | ((with_reducible refine gate_dst (N := 105) rfl ?_); go_must (refine M.out.ev_bs1 elem_Net rfl _ rfl x.vals.toArray rfl rfl (by decide) ?_); intro g105 w105 m; simp only [List.cons_append, List.nil_append] at m; have M := Lib.hid m; clear m) | ((with_reducible refine gate_dst (N := 106) rfl ?_); go_must (first | (refine M.out.ev_append1 0 1 elem_Net rfl _ _ rfl rfl rfl rfl rfl rfl (Net.one x) (by have := H.out.nl; omega) (by decide) ?_; intro v106 w106 m; simp only [List.set_cons_succ, List.set_cons_zero] at m; obtain ⟨B106, c106, rfl, hc106, _⟩ := m.row_slice 0 rfl; have HIN := Lib.hid (H.out.next hg HZ.out HM.out (s' := s') (bv' := bv') (v := v91) (HOX.out.trans (m.oth sb)) (by rw [← HAL.out]; exact m.arg HX91.out) (HBest.out.oth (HO91.out.trans (m.oth sb))) (by omega) (m.row 0 rfl) HLT.out hc106 (m.row_none 0 rfl))) | (refine M.out.ev_append1 1 0 elem_Net rfl _ _ rfl rfl rfl rfl rfl rfl (Net.one x) (by have := H.out.nl; omega) (by decide) ?_; intro v106 w106 m; simp only [List.set_cons_succ, List.set_cons_zero] at m; obtain ⟨B106, c106, rfl, hc106, _⟩ := m.row_slice 1 rfl; have HIN := Lib.hid (H.out.next hg HZ.out HM.out (s' := s') (bv' := bv') (v := v91) (HOX.out.trans (m.oth sb)) (by rw [← HAL.out]; exact m.arg HX91.out) (HBest.out.oth (HO91.out.trans (m.oth sb))) (by omega) (m.row 1 rfl) HLT.out hc106 (m.row_none 1 rfl)))); rw [← HA.out] at HIN; have M := Lib.hid m; clear m))
                      refine onward_normal (hK _ _ ⟨(by exact M.out.take 0), ?_⟩)
                      clear hK K
                      try simp only [Act.put, List.getElem_toArray, List.getElem_cons_succ, List.getElem_cons_zero, List.setIfInBounds_toArray, List.set_cons_succ, List.set_cons_zero]
                      refine any1H 14 (by kernel_rfl) rfl (fun K hK => ?_)
                      go_wp2_with (first | ((with_reducible refine gate_dst (N := 92) rfl ?_); go_must (refine M.out.ev_bs0 elem_Net rfl rfl ?_); intro gv92 wv92 m; simp only [List.cons_append, List.nil_append] at m; have M := Lib.hid m; clear m) | ((with_reducible refine gate_dst (N := 94) rfl ?_); go_must (first | (refine M.out.ev_appends 0 elem_Net rfl _ _ rfl rfl rfl rfl (H.out.sl _ (HOX.out.trans (M.out.oth sb))) H.out.empt (by omega) (flat_one Net.ones _) (by have := H.out.nl; omega) (by decide) ?_) | (refine M.out.ev_appends 1 elem_Net rfl _ _ rfl rfl rfl rfl (H.out.sl _ (HOX.out.trans (M.out.oth sb))) H.out.empt (by omega) (flat_one Net.ones _) (by have := H.out.nl; omega) (by decide) ?_)); intro v94 w94 m; simp only [List.set_cons_succ, List.set_cons_zero, List.nil_append, Nat.zero_add] at m; have M := Lib.hid m; clear m) | ((with_reducible refine gate_dst (N := 105) rfl ?_); go_must (refine M.out.ev_bs1 elem_Net rfl _ rfl x.vals.toArray rfl rfl (by decide) ?_); intro g105 w105 m; simp only [List.cons_append, List.nil_append] at m; have M := Lib.hid m; clear m) | ((with_reducible refine gate_dst (N := 106) rfl ?_); go_must (first | (refine M.out.ev_append1 0 1 elem_Net rfl _ _ rfl rfl rfl rfl rfl rfl (Net.one x) (by have := H.out.nl; omega) (by decide) ?_; intro v106 w106 m; simp only [List.set_cons_succ, List.set_cons_zero] at m; obtain ⟨B106, c106, rfl, hc106, _⟩ := m.row_slice 0 rfl; have HIN := Lib.hid (H.out.next hg HZ.out HM.out (s' := s') (bv' := bv') (v := v91) (HOX.out.trans (m.oth sb)) (by rw [← HAL.out]; exact m.arg HX91.out) (HBest.out.oth (HO91.out.trans (m.oth sb))) (by omega) (m.row 0 rfl) HLT.out hc106 (m.row_none 0 rfl))) | (refine M.out.ev_append1 1 0 elem_Net rfl _ _ rfl rfl rfl rfl rfl rfl (Net.one x) (by have := H.out.nl; omega) (by decide) ?_; intro v106 w106 m; simp only [List.set_cons_succ, List.set_cons_zero] at m; obtain ⟨B106, c106, rfl, hc106, _⟩ := m.row_slice 1 rfl; have HIN := Lib.hid (H.out.next hg HZ.out HM.out (s' := s') (bv' := bv') (v := v91) (HOX.out.trans (m.oth sb)) (by rw [← HAL.out]; exact m.arg HX91.out) (HBest.out.oth (HO91.out.trans (m.oth sb))) (by omega) (m.row 1 rfl) HLT.out hc106 (m.row_none 1 rfl)))); rw [← HA.out] at HIN; have M := Lib.hid m; clear m))
                      refine onward_normal (hK _ _ ⟨(by exact M.out.take 0), ?_⟩)
                      clear hK K
                      try simp only [Act.put, List.getElem_toArray, List.getElem_cons_succ, List.getElem_cons_zero, List.setIfInBounds_toArray, List.set_cons_succ, List.set_cons_zero]
                      apply takeH (i := 15) 12 rfl (by kernel_rfl) (by kernel_rfl) (by kernel_rfl) (fun _ _ _ h => h) rfl (by exact M.out.take 0)
                      case' hy =>
                        refine Or.inl ⟨by first | rfl | (go_simp; done), ?_⟩
                        intro w hS
                        clear hS
                        go_simp
                        try with_reducible rfl
                      try simp only [Act.put, List.getElem_toArray, List.getElem_cons_succ, List.getElem_cons_zero, List.setIfInBounds_toArray, List.set_cons_succ, List.set_cons_zero]
                      refine wpAnyH_done (by kernel_rfl) ?_ _
                    rotate_right 1
                    case' _ =>
                      go_wp2_with (first | ((with_reducible refine gate_dst (N := 92) rfl ?_); go_must (refine M.out.ev_bs0 elem_Net rfl rfl ?_); intro gv92 wv92 m; simp only [List.cons_append, List.nil_append] at m; have M := Lib.hid m; clear m) | ((with_reducible refine gate_dst (N := 94) rfl ?_); go_must (first | (refine M.out.ev_appends 0 elem_Net rfl _ _ rfl rfl rfl rfl (H.out.sl _ (HOX.out.trans (M.out.oth sb))) H.out.empt (by omega) (flat_one Net.ones _) (by have := H.out.nl; omega) (by decide) ?_) | (refine M.out.ev_appends 1 elem_Net rfl _ _ rfl rfl rfl rfl (H.out.sl _ (HOX.out.trans (M.out.oth sb))) H.out.empt (by omega) (flat_one Net.ones _) (by have := H.out.nl; omega) (by decide) ?_)); intro v94 w94 m; simp only [List.set_cons_succ, List.set_cons_zero, List.nil_append, Nat.zero_add] at m; have M := Lib.hid m; clear m) | ((with_reducible refine gate_dst (N := 105) rfl ?_); go_must (refine M.out.ev_bs1 elem_Net rfl _ rfl x.vals.toArray rfl rfl (by decide) ?_); intro g105 w105 m; simp only [List.cons_append, List.nil_append] at m; have M := Lib.hid m; clear m) | ((with_reducible refine gate_dst (N := 106) rfl ?_); go_must (first | (refine M.out.ev_append1 0 1 elem_Net rfl _ _ rfl rfl rfl rfl rfl rfl (Net.one x) (by have := H.out.nl; omega) (by decide) ?_; intro v106 w106 m; simp only [List.set_cons_succ, List.set_cons_zero] at m; obtain ⟨B106, c106, rfl, hc106, _⟩ := m.row_slice 0 rfl; have HIN := Lib.hid (H.out.next hg HZ.out HM.out (s' := s') (bv' := bv') (v := v91) (HOX.out.trans (m.oth sb)) (by rw [← HAL.out]; exact m.arg HX91.out) (HBest.out.oth (HO91.out.trans (m.oth sb))) (by omega) (m.row 0 rfl) HLT.out hc106 (m.row_none 0 rfl))) | (refine M.out.ev_append1 1 0 elem_Net rfl _ _ rfl rfl rfl rfl rfl rfl (Net.one x) (by have := H.out.nl; omega) (by decide) ?_; intro v106 w106 m; simp only [List.set_cons_succ, List.set_cons_zero] at m; obtain ⟨B106, c106, rfl, hc106, _⟩ := m.row_slice 1 rfl; have HIN := Lib.hid (H.out.next hg HZ.out HM.out (s' := s') (bv' := bv') (v := v91) (HOX.out.trans (m.oth sb)) (by rw [← HAL.out]; exact m.arg HX91.out) (HBest.out.oth (HO91.out.trans (m.oth sb))) (by omega) (m.row 1 rfl) HLT.out hc106 (m.row_none 1 rfl)))); rw [← HA.out] at HIN; have M := Lib.hid m; clear m))
                      refine onward_normal (hK _ _ ⟨(by exact M.out.take 0), ?_⟩)
                      clear hK K
                      try simp only [Act.put, List.getElem_toArray, List.getElem_cons_succ, List.getElem_cons_zero, List.setIfInBounds_toArray, List.set_cons_succ, List.set_cons_zero]
                      refine any2H 2 13 (by kernel_rfl) rfl rfl (fun K hK => ?_) (fun K hK => ?_)
                      rotate_right 1
                      case' _ =>
                        go_wp2_with (first | ((with_reducible refine gate_dst (N := 92) rfl ?_); go_must (refine M.out.ev_bs0 elem_Net rfl rfl ?_); intro gv92 wv92 m; simp only [List.cons_append, List.nil_append] at m; have M := Lib.hid m; clear m) | ((with_reducible refine gate_dst (N := 94) rfl ?_); go_must (first | (refine M.out.ev_appends 0 elem_Net rfl _ _ rfl rfl rfl rfl (H.out.sl _ (HOX.out.trans (M.out.oth sb))) H.out.empt (by omega) (flat_one Net.ones _) (by have := H.out.nl; omega) (by decide) ?_) | (refine M.out.ev_appends 1 elem_Net rfl _ _ rfl rfl rfl rfl (H.out.sl _ (HOX.out.trans (M.out.oth sb))) H.out.empt (by omega) (flat_one Net.ones _) (by have := H.out.nl; omega) (by decide) ?_)); intro v94 w94 m; simp only [List.set_cons_succ, List.set_cons_zero, List.nil_append, Nat.zero_add] at m; have M := Lib.hid m; clear m) | ((with_reducible refine gate_dst (N := 105) rfl ?_); go_must (refine M.out.ev_bs1 elem_Net rfl _ rfl x.vals.toArray rfl rfl (by decide) ?_); intro g105 w105 m; simp only [List.cons_append, List.nil_append] at m; have M := Lib.hid m; clear m) | ((with_reducible refine gate_dst (N := 106) rfl ?_); go_must (first | (refine M.out.ev_append1 0 1 elem_Net rfl _ _ rfl rfl rfl rfl rfl rfl (Net.one x) (by have := H.out.nl; omega) (by decide) ?_; intro v106 w106 m; simp only [List.set_cons_succ, List.set_cons_zero] at m; obtain ⟨B106, c106, rfl, hc106, _⟩ := m.row_slice 0 rfl; have HIN := Lib.hid (H.out.next hg HZ.out HM.out (s' := s') (bv' := bv') (v := v91) (HOX.out.trans (m.oth sb)) (by rw [← HAL.out]; exact m.arg HX91.out) (HBest.out.oth (HO91.out.trans (m.oth sb))) (by omega) (m.row 0 rfl) HLT.out hc106 (m.row_none 0 rfl))) | (refine M.out.ev_append1 1 0 elem_Net rfl _ _ rfl rfl rfl rfl rfl rfl (Net.one x) (by have := H.out.nl; omega) (by decide) ?_; intro v106 w106 m; simp only [List.set_cons_succ, List.set_cons_zero] at m; obtain ⟨B106, c106, rfl, hc106, _⟩ := m.row_slice 1 rfl; have HIN := Lib.hid (H.out.next hg HZ.out HM.out (s' := s') (bv' := bv') (v := v91) (HOX.out.trans (m.oth sb)) (by rw [← HAL.out]; exact m.arg HX91.out) (HBest.out.oth (HO91.out.trans (m.oth sb))) (by omega) (m.row 1 rfl) HLT.out hc106 (m.row_none 1 rfl)))); rw [← HA.out] at HIN; have M := Lib.hid m; clear m))
                        refine onward_normal (hK _ _ ⟨(by exact M.out.take 0), ?_⟩)
                        clear hK K
                        try simp only [Act.put, List.getElem_toArray, List.getElem_cons_succ, List.getElem_cons_zero, List.setIfInBounds_toArray, List.set_cons_succ, List.set_cons_zero]
                        refine any1H 2 (by kernel_rfl) rfl (fun K hK => ?_)
                        go_wp2_with (first | ((with_reducible refine gate_dst (N := 92) rfl ?_); go_must (refine M.out.ev_bs0 elem_Net rfl rfl ?_); intro gv92 wv92 m; simp only [List.cons_append, List.nil_append] at m; have M := Lib.hid m; clear m) | ((with_reducible refine gate_dst (N := 94) rfl ?_); go_must (first | (refine M.out.ev_appends 0 elem_Net rfl _ _ rfl rfl rfl rfl (H.out.sl _ (HOX.out.trans (M.out.oth sb))) H.out.empt (by omega) (flat_one Net.ones _) (by have := H.out.nl; omega) (by decide) ?_) | (refine M.out.ev_appends 1 elem_Net rfl _ _ rfl rfl rfl rfl (H.out.sl _ (HOX.out.trans (M.out.oth sb))) H.out.empt (by omega) (flat_one Net.ones _) (by have := H.out.nl; omega) (by decide) ?_)); intro v94 w94 m; simp only [List.set_cons_succ, List.set_cons_zero, List.nil_append, Nat.zero_add] at m; have M := Lib.hid m; clear m) | ((with_reducible refine gate_dst (N := 105) rfl ?_); go_must (refine M.out.ev_bs1 elem_Net rfl _ rfl x.vals.toArray rfl rfl (by decide) ?_); intro g105 w105 m; simp only [List.cons_append, List.nil_append] at m; have M := Lib.hid m; clear m) | ((with_reducible refine gate_dst (N := 106) rfl ?_); go_must (first | (refine M.out.ev_append1 0 1 elem_Net rfl _ _ rfl rfl rfl rfl rfl rfl (Net.one x) (by have := H.out.nl; omega) (by decide) ?_; intro v106 w106 m; simp only [List.set_cons_succ, List.set_cons_zero] at m; obtain ⟨B106, c106, rfl, hc106, _⟩ := m.row_slice 0 rfl; have HIN := Lib.hid (H.out.next hg HZ.out HM.out (s' := s') (bv' := bv') (v := v91) (HOX.out.trans (m.oth sb)) (by rw [← HAL.out]; exact m.arg HX91.out) (HBest.out.oth (HO91.out.trans (m.oth sb))) (by omega) (m.row 0 rfl) HLT.out hc106 (m.row_none 0 rfl))) | (refine M.out.ev_append1 1 0 elem_Net rfl _ _ rfl rfl rfl rfl rfl rfl (Net.one x) (by have := H.out.nl; omega) (by decide) ?_; intro v106 w106 m; simp only [List.set_cons_succ, List.set_cons_zero] at m; obtain ⟨B106, c106, rfl, hc106, _⟩ := m.row_slice 1 rfl; have HIN := Lib.hid (H.out.next hg HZ.out HM.out (s' := s') (bv' := bv') (v := v91) (HOX.out.trans (m.oth sb)) (by rw [← HAL.out]; exact m.arg HX91.out) (HBest.out.oth (HO91.out.trans (m.oth sb))) (by omega) (m.row 1 rfl) HLT.out hc106 (m.row_none 1 rfl)))); rw [← HA.out] at HIN; have M := Lib.hid m; clear m))
                        refine onward_normal (hK _ _ ⟨(by exact M.out.take 0), ?_⟩)
                        clear hK K
                        try simp only [Act.put, List.getElem_toArray, List.getElem_cons_succ, List.getElem_cons_zero, List.setIfInBounds_toArray, List.set_cons_succ, List.set_cons_zero]
                        refine any1H 14 (by kernel_rfl) rfl (fun K hK => ?_)
                        go_wp2_with (first | ((with_reducible refine gate_dst (N := 92) rfl ?_); go_must (refine M.out.ev_bs0 elem_Net rfl rfl ?_); intro gv92 wv92 m; simp only [List.cons_append, List.nil_append] at m; have M := Lib.hid m; clear m) | ((with_reducible refine gate_dst (N := 94) rfl ?_); go_must (first | (refine M.out.ev_appends 0 elem_Net rfl _ _ rfl rfl rfl rfl (H.out.sl _ (HOX.out.trans (M.out.oth sb))) H.out.empt (by omega) (flat_one Net.ones _) (by have := H.out.nl; omega) (by decide) ?_) | (refine M.out.ev_appends 1 elem_Net rfl _ _ rfl rfl rfl rfl (H.out.sl _ (HOX.out.trans (M.out.oth sb))) H.out.empt (by omega) (flat_one Net.ones _) (by have := H.out.nl; omega) (by decide) ?_)); intro v94 w94 m; simp only [List.set_cons_succ, List.set_cons_zero, List.nil_append, Nat.zero_add] at m; have M := Lib.hid m; clear m) | ((with_reducible refine gate_dst (N := 105) rfl ?_); go_must (refine M.out.ev_bs1 elem_Net rfl _ rfl x.vals.toArray rfl rfl (by decide) ?_); intro g105 w105 m; simp only [List.cons_append, List.nil_append] at m; have M := Lib.hid m; clear m) | ((with_reducible refine gate_dst (N := 106) rfl ?_); go_must (first | (refine M.out.ev_append1 0 1 elem_Net rfl _ _ rfl rfl rfl rfl rfl rfl (Net.one x) (by have := H.out.nl; omega) (by decide) ?_; intro v106 w106 m; simp only [List.set_cons_succ, List.set_cons_zero] at m; obtain ⟨B106, c106, rfl, hc106, _⟩ := m.row_slice 0 rfl; have HIN := Lib.hid (H.out.next hg HZ.out HM.out (s' := s') (bv' := bv') (v := v91) (HOX.out.trans (m.oth sb)) (by rw [← HAL.out]; exact m.arg HX91.out) (HBest.out.oth (HO91.out.trans (m.oth sb))) (by omega) (m.row 0 rfl) HLT.out hc106 (m.row_none 0 rfl))) | (refine M.out.ev_append1 1 0 elem_Net rfl _ _ rfl rfl rfl rfl rfl rfl (Net.one x) (by have := H.out.nl; omega) (by decide) ?_; intro v106 w106 m; simp only [List.set_cons_succ, List.set_cons_zero] at m; obtain ⟨B106, c106, rfl, hc106, _⟩ := m.row_slice 1 rfl; have HIN := Lib.hid (H.out.next hg HZ.out HM.out (s' := s') (bv' := bv') (v := v91) (HOX.out.trans (m.oth sb)) (by rw [← HAL.out]; exact m.arg HX91.out) (HBest.out.oth (HO91.out.trans (m.oth sb))) (by omega) (m.row 1 rfl) HLT.out hc106 (m.row_none 1 rfl)))); rw [← HA.out] at HIN; have M := Lib.hid m; clear m))
                        refine onward_normal (hK _ _ ⟨(by exact M.out.take 0), ?_⟩)
                        clear hK K
                        try simp only [Act.put, List.getElem_toArray, List.getElem_cons_succ, List.getElem_cons_zero, List.setIfInBounds_toArray, List.set_cons_succ, List.set_cons_zero]
                        apply takeH (i := 15) 12 rfl (by kernel_rfl) (by kernel_rfl) (by kernel_rfl) (fun _ _ _ h => h) rfl (by exact M.out.take 0)
                        case' hy =>
                          refine Or.inl ⟨by first | rfl | (go_simp; done), ?_⟩
                          intro w hS
                          clear hS
                          go_simp
                          try with_reducible rfl
                        try simp only [Act.put, List.getElem_toArray, List.getElem_cons_succ, List.getElem_cons_zero, List.setIfInBounds_toArray, List.set_cons_succ, List.set_cons_zero]
                        refine wpAnyH_done (by kernel_rfl) ?_ _
                      rotate_right 1
                      case' _ =>
                        go_wp2_with (first | ((with_reducible refine gate_dst (N := 92) rfl ?_); go_must (refine M.out.ev_bs0 elem_Net rfl rfl ?_); intro gv92 wv92 m; simp only [List.cons_append, List.nil_append] at m; have M := Lib.hid m; clear m) | ((with_reducible refine gate_dst (N := 94) rfl ?_); go_must (first | (refine M.out.ev_appends 0 elem_Net rfl _ _ rfl rfl rfl rfl (H.out.sl _ (HOX.out.trans (M.out.oth sb))) H.out.empt (by omega) (flat_one Net.ones _) (by have := H.out.nl; omega) (by decide) ?_) | (refine M.out.ev_appends 1 elem_Net rfl _ _ rfl rfl rfl rfl (H.out.sl _ (HOX.out.trans (M.out.oth sb))) H.out.empt (by omega) (flat_one Net.ones _) (by have := H.out.nl; omega) (by decide) ?_)); intro v94 w94 m; simp only [List.set_cons_succ, List.set_cons_zero, List.nil_append, Nat.zero_add] at m; have M := Lib.hid m; clear m) | ((with_reducible refine gate_dst (N := 105) rfl ?_); go_must (refine M.out.ev_bs1 elem_Net rfl _ rfl x.vals.toArray rfl rfl (by decide) ?_); intro g105 w105 m; simp only [List.cons_append, List.nil_append] at m; have M := Lib.hid m; clear m) | ((with_reducible refine gate_dst (N := 106) rfl ?_); go_must (first | (refine M.out.ev_append1 0 1 elem_Net rfl _ _ rfl rfl rfl rfl rfl rfl (Net.one x) (by have := H.out.nl; omega) (by decide) ?_; intro v106 w106 m; simp only [List.set_cons_succ, List.set_cons_zero] at m; obtain ⟨B106, c106, rfl, hc106, _⟩ := m.row_slice 0 rfl; have HIN := Lib.hid (H.out.next hg HZ.out HM.out (s' := s') (bv' := bv') (v := v91) (HOX.out.trans (m.oth sb)) (by rw [← HAL.out]; exact m.arg HX91.out) (HBest.out.oth (HO91.out.trans (m.oth sb))) (by omega) (m.row 0 rfl) HLT.out hc106 (m.row_none 0 rfl))) | (refine M.out.ev_append1 1 0 elem_Net rfl _ _ rfl rfl rfl rfl rfl rfl (Net.one x) (by have := H.out.nl; omega) (by decide) ?_; intro v106 w106 m; simp only [List.set_cons_succ, List.set_cons_zero] at m; obtain ⟨B106, c106, rfl, hc106, _⟩ := m.row_slice 1 rfl; have HIN := Lib.hid (H.out.next hg HZ.out HM.out (s' := s') (bv' := bv') (v := v91) (HOX.out.trans (m.oth sb)) (by rw [← HAL.out]; exact m.arg HX91.out) (HBest.out.oth (HO91.out.trans (m.oth sb))) (by omega) (m.row 1 rfl) HLT.out hc106 (m.row_none 1 rfl)))); rw [← HA.out] at HIN; have M := Lib.hid m; clear m))
                        refine onward_normal (hK _ _ ⟨(by exact M.out.take 0), ?_⟩)
                        clear hK K
                        try simp only [Act.put, List.getElem_toArray, List.getElem_cons_succ, List.getElem_cons_zero, List.setIfInBounds_toArray, List.set_cons_succ, List.set_cons_zero]
                        refine any1H 13 (by kernel_rfl) rfl (fun K hK => ?_)
                        go_wp2_with (first | ((with_reducible refine gate_dst (N := 92) rfl ?_); go_must (refine M.out.ev_bs0 elem_Net rfl rfl ?_); intro gv92 wv92 m; simp only [List.cons_append, List.nil_append] at m; have M := Lib.hid m; clear m) | ((with_reducible refine gate_dst (N := 94) rfl ?_); go_must (first | (refine M.out.ev_appends 0 elem_Net rfl _ _ rfl rfl rfl rfl (H.out.sl _ (HOX.out.trans (M.out.oth sb))) H.out.empt (by omega) (flat_one Net.ones _) (by have := H.out.nl; omega) (by decide) ?_) | (refine M.out.ev_appends 1 elem_Net rfl _ _ rfl rfl rfl rfl (H.out.sl _ (HOX.out.trans (M.out.oth sb))) H.out.empt (by omega) (flat_one Net.ones _) (by have := H.out.nl; omega) (by decide) ?_)); intro v94 w94 m; simp only [List.set_cons_succ, List.set_cons_zero, List.nil_append, Nat.zero_add] at m; have M := Lib.hid m; clear m) | ((with_reducible refine gate_dst (N := 105) rfl ?_); go_must (refine M.out.ev_bs1 elem_Net rfl _ rfl x.vals.toArray rfl rfl (by decide) ?_); intro g105 w105 m; simp only [List.cons_append, List.nil_append] at m; have M := Lib.hid m; clear m) | ((with_reducible refine gate_dst (N := 106) rfl ?_); go_must (first | (refine M.out.ev_append1 0 1 elem_Net rfl _ _ rfl rfl rfl rfl rfl rfl (Net.one x) (by have := H.out.nl; omega) (by decide) ?_; intro v106 w106 m; simp only [List.set_cons_succ, List.set_cons_zero] at m; obtain ⟨B106, c106, rfl, hc106, _⟩ := m.row_slice 0 rfl; have HIN := Lib.hid (H.out.next hg HZ.out HM.out (s' := s') (bv' := bv') (v := v91) (HOX.out.trans (m.oth sb)) (by rw [← HAL.out]; exact m.arg HX91.out) (HBest.out.oth (HO91.out.trans (m.oth sb))) (by omega) (m.row 0 rfl) HLT.out hc106 (m.row_none 0 rfl))) | (refine M.out.ev_append1 1 0 elem_Net rfl _ _ rfl rfl rfl rfl rfl rfl (Net.one x) (by have := H.out.nl; omega) (by decide) ?_; intro v106 w106 m; simp only [List.set_cons_succ, List.set_cons_zero] at m; obtain ⟨B106, c106, rfl, hc106, _⟩ := m.row_slice 1 rfl; have HIN := Lib.hid (H.out.next hg HZ.out HM.out (s' := s') (bv' := bv') (v := v91) (HOX.out.trans (m.oth sb)) (by rw [← HAL.out]; exact m.arg HX91.out) (HBest.out.oth (HO91.out.trans (m.oth sb))) (by omega) (m.row 1 rfl) HLT.out hc106 (m.row_none 1 rfl)))); rw [← HA.out] at HIN; have M := Lib.hid m; clear m))
                        refine onward_normal (hK _ _ ⟨(by exact M.out.take 0), ?_⟩)
                        clear hK K
                        try simp only [Act.put, List.getElem_toArray, List.getElem_cons_succ, List.getElem_cons_zero, List.setIfInBounds_toArray, List.set_cons_succ, List.set_cons_zero]
                        refine any1H 14 (by kernel_rfl) rfl (fun K hK => ?_)
                        go_wp2_with (first | ((with_reducible refine gate_dst (N := 92) rfl ?_); go_must (refine M.out.ev_bs0 elem_Net rfl rfl ?_); intro gv92 wv92 m; simp only [List.cons_append, List.nil_append] at m; have M := Lib.hid m; clear m) | ((with_reducible refine gate_dst (N := 94) rfl ?_); go_must (first | (refine M.out.ev_appends 0 elem_Net rfl _ _ rfl rfl rfl rfl (H.out.sl _ (HOX.out.trans (M.out.oth sb))) H.out.empt (by omega) (flat_one Net.ones _) (by have := H.out.nl; omega) (by decide) ?_) | (refine M.out.ev_appends 1 elem_Net rfl _ _ rfl rfl rfl rfl (H.out.sl _ (HOX.out.trans (M.out.oth sb))) H.out.empt (by omega) (flat_one Net.ones _) (by have := H.out.nl; omega) (by decide) ?_)); intro v94 w94 m; simp only [List.set_cons_succ, List.set_cons_zero, List.nil_append, Nat.zero_add] at m; have M := Lib.hid m; clear m) | ((with_reducible refine gate_dst (N := 105) rfl ?_); go_must (refine M.out.ev_bs1 elem_Net rfl _ rfl x.vals.toArray rfl rfl (by decide) ?_); intro g105 w105 m; simp only [List.cons_append, List.nil_append] at m; have M := Lib.hid m; clear m) | ((with_reducible refine gate_dst (N := 106) rfl ?_); go_must (first | (refine M.out.ev_append1 0 1 elem_Net rfl _ _ rfl rfl rfl rfl rfl rfl (Net.one x) (by have := H.out.nl; omega) (by decide) ?_; intro v106 w106 m; simp only [List.set_cons_succ, List.set_cons_zero] at m; obtain ⟨B106, c106, rfl, hc106, _⟩ := m.row_slice 0 rfl; have HIN := Lib.hid (H.out.next hg HZ.out HM.out (s' := s') (bv' := bv') (v := v91) (HOX.out.trans (m.oth sb)) (by rw [← HAL.out]; exact m.arg HX91.out) (HBest.out.oth (HO91.out.trans (m.oth sb))) (by omega) (m.row 0 rfl) HLT.out hc106 (m.row_none 0 rfl))) | (refine M.out.ev_append1 1 0 elem_Net rfl _ _ rfl rfl rfl rfl rfl rfl (Net.one x) (by have := H.out.nl; omega) (by decide) ?_; intro v106 w106 m; simp only [List.set_cons_succ, List.set_cons_zero] at m; obtain ⟨B106, c106, rfl, hc106, _⟩ := m.row_slice 1 rfl; have HIN := Lib.hid (H.out.next hg HZ.out HM.out (s' := s') (bv' := bv') (v := v91) (HOX.out.trans (m.oth sb)) (by rw [← HAL.out]; exact m.arg HX91.out) (HBest.out.oth (HO91.out.trans (m.oth sb))) (by omega) (m.row 1 rfl) HLT.out hc106 (m.row_none 1 rfl)))); rw [← HA.out] at HIN; have M := Lib.hid m; clear m))
                        refine onward_normal (hK _ _ ⟨(by exact M.out.take 0), ?_⟩)
                        clear hK K
                        try simp only [Act.put, List.getElem_toArray, List.getElem_cons_succ, List.getElem_cons_zero, List.setIfInBounds_toArray, List.set_cons_succ, List.set_cons_zero]
                        apply takeH (i := 15) 12 rfl (by kernel_rfl) (by kernel_rfl) (by kernel_rfl) (fun _ _ _ h => h) rfl (by exact M.out.take 0)
                        case' hy =>
                          refine Or.inl ⟨by first | rfl | (go_simp; done), ?_⟩
                          intro w hS
                          clear hS
                          go_simp
                          try with_reducible rfl
                        try simp only [Act.put, List.getElem_toArray, List.getElem_cons_succ, List.getElem_cons_zero, List.setIfInBounds_toArray, List.set_cons_succ, List.set_cons_zero]
                        refine wpAnyH_done (by kernel_rfl) ?_ _
                    all_goals
                      obtain ⟨q, hq⟩ : ∃ q, q = seek F p B m (left.without (netSet x)) (ns ++ [x]) (c + a) ⟨s'.tries + 1, s'.least, s'.best⟩ := ⟨_, rfl⟩
                      have HSQ := HSK.out q hq.symm
                      rw [hsk] at HSQ
                      have HSQ := Lib.hid HSQ
                      have ht4 := HT3.out
                      rw [← hq] at ht4
                      have HT4 := Lib.hid ht4
                      have ihq := IH.out _ _ _ _ _ _ _ _ _ HIN.out
                      rw [← hq] at ihq
                      have IHQ := Lib.hid ihq
                      clear hq HSK HT3 IH HIN ihq ht4
                      go_wp2_with (first
                        | ((with_reducible refine gate_dst (N := 113) rfl ?_); go_must (refine ev_get _ _ rfl rfl ((M.out.arg HX91.out).cellv (i := 1) (v := .slice (some ⟨bk, ok, none⟩) T.all.length ck) rfl) Try.underlying78 rfl rfl ?_))
                        | ((with_reducible refine gate_dst (N := 116) rfl ?_); go_must (refine ev_get _ _ rfl rfl ((HSH.out _ (HOX.out.trans (M.out.oth sb))).2.1) Try.underlying83 rfl rfl ?_))
                        | ((with_reducible refine gate_dst (N := 119) rfl ?_); go_must (refine ev_get _ _ rfl rfl (X2.out _ (HOX.out.trans (M.out.oth sb))) Try.underlying75 rfl rfl ?_))
                        | (go_at_call 38; go_must (refine (IHQ.out).mono ?_); rintro e w_ ⟨bv2, rfl, ho2, hb2, hbest2⟩; have HOW := Lib.hid (HOX.out.trans ((M.out.oth sb).trans ho2)); have HB2 := Lib.hid hb2; have HBest2 := Lib.hid hbest2; clear ho2 hb2 hbest2)
                        )
                      all_goals
                        first
                          | (have hq0 : (!q.1) = false := by assumption
                             have hq1 : q.1 = true := by rwa [Bool.not_eq_false'] at hq0
                             have e9 := HSQ.out
                             rw [if_pos hq1] at e9
                             exact ⟨⟨i + 1, q.2, bv2, by omega, by go_num, HOW.out, HB2.out, HBest2.out, HT4.out, e9.symm⟩, by simp [intOf]; omega⟩)
                          | (go_ret
                             have hq0 : (!q.1) = true := by assumption
                             have hq1 : q.1 = false := by rwa [Bool.not_eq_true'] at hq0
                             have e9 := HSQ.out
                             rw [if_neg (by rw [hq1]; decide)] at e9
                             rw [e9]
                             exact ⟨bv2, (by show Ending.returned (.bool false) = _; rw [hq1]), HOW.out, HB2.out, HBest2.out⟩)
              · have C8 := Lib.hid (show (s4c (.slice (some ⟨bn, on, none⟩) T.all.length cn) (.slice (some ⟨bk, ok, none⟩) T.all.length ck) (.slice (some ⟨bc, oc, none⟩) T.all.length cc) al B bv' s')[8]? = some (.bool false) by simp [s4c, q1])
                have C7 := True.intro
                have hno : ¬ (0 ≤ s'.least ∧ s'.least ≤ c + netCost p x) := fun h => q1 h.1
                have HNO := Lib.hid hno
                clear hno
                by_cases q3 : s'.tries = B
                · have q3b : ((s'.tries : Int) == (B : Int)) = true := by rw [beq_iff_eq, q3]
                  have HSK := Lib.hid (skIn_out (p := p) (B := B) (r := L.drop (i + 1)) (rec := seek F p B m) (left := left) (ns := ns) HNO.out q3)
                  go_wp2_with (first
                    | ((with_reducible refine gate_dst (N := 44) rfl ?_); go_must (refine ev_get _ _ rfl rfl ((M.out.arg HB.out).cellv (i := 0) (v := .slice (some ⟨bn, on, none⟩) T.all.length cn) (by first | rfl | assumption)) Try.underlying77 rfl rfl ?_))
                    | ((with_reducible refine gate_dst (N := 47) rfl ?_); go_must (refine ev_get _ _ rfl rfl ((HSH.out _ (HO.out.trans (M.out.oth sb))).1) Try.underlying32 rfl rfl ?_))
                    | ((with_reducible refine gate_dst (N := 56) rfl ?_); go_must (refine ev_get _ _ rfl rfl ((M.out.arg HB.out).cellv (i := 2) (v := .slice (some ⟨bc, oc, none⟩) T.all.length cc) (by first | rfl | assumption)) Try.underlying79 rfl rfl ?_))
                    | ((with_reducible refine gate_dst (N := 59) rfl ?_); go_must (refine ev_get _ _ rfl rfl ((HSH.out _ (HO.out.trans (M.out.oth sb))).2.2.1) Try.underlying49 rfl rfl ?_))
                    | ((with_reducible refine gate_dst (N := 62) rfl ?_); go_must (refine ev_get _ _ rfl rfl (X3.out _ (HO.out.trans (M.out.oth sb))) Try.underlying2 rfl rfl ?_))
                    | ((with_reducible refine gate_dst (N := 67) rfl ?_); go_must (refine ev_get _ _ rfl rfl ((M.out.arg HB.out).cellv (i := 8) C8.out) Try.underlying4 rfl rfl ?_))
                    | ((with_reducible refine gate_dst (N := 73) rfl ?_); refine gate_want rfl ?_; go_must (refine ev_get _ _ rfl rfl ((M.out.arg HB.out).cellv (i := 7) C7.out) Try.underlying2 rfl rfl ?_))
                    )
                  refine region_anyH (fun w' => Mem wr w' []) (by kernel_rfl) ?_
                  have m := M.out.drew
                  clear M
                  have M := Lib.hid m
                  clear m
                  apply takeH (i := 0) 76 rfl (by kernel_rfl) (by kernel_rfl) (by kernel_rfl) (fun _ _ _ h => h) rfl (by first | exact M.out | exact M.out.take 0)
                  case' hy =>
                    refine Or.inl ⟨by first | rfl | (go_simp; done), ?_⟩
                    intro w hS
                    clear hS
                    go_simp
                    try with_reducible rfl
                  try simp only [Act.put, List.getElem_toArray, List.getElem_cons_succ, List.getElem_cons_zero, List.setIfInBounds_toArray, List.set_cons_succ, List.set_cons_zero]
                  apply takeH (i := 1) 77 rfl (by kernel_rfl) (by kernel_rfl) (by kernel_rfl) (fun _ _ _ h => h) rfl (by first | exact M.out | exact M.out.take 0)
                  case' hy =>
                    refine Or.inl ⟨by first | rfl | (go_simp; done), ?_⟩
                    intro w hS
                    clear hS
                    go_simp
                    try with_reducible rfl
                  try simp only [Act.put, List.getElem_toArray, List.getElem_cons_succ, List.getElem_cons_zero, List.setIfInBounds_toArray, List.set_cons_succ, List.set_cons_zero]
                  apply takeH (i := 2) 78 rfl (by kernel_rfl) (by kernel_rfl) (by kernel_rfl) (fun _ _ _ h => h) rfl (by first | exact M.out | exact M.out.take 0)
                  case' hy =>
                    refine Or.inl ⟨by first | rfl | (go_simp; done), ?_⟩
                    intro w hS
                    clear hS
                    go_simp
                    try with_reducible rfl
                  try simp only [Act.put, List.getElem_toArray, List.getElem_cons_succ, List.getElem_cons_zero, List.setIfInBounds_toArray, List.set_cons_succ, List.set_cons_zero]
                  apply takeH (i := 3) 79 rfl (by kernel_rfl) (by kernel_rfl) (by kernel_rfl) (fun _ _ _ h => h) rfl (by first | exact M.out | exact M.out.take 0)
                  case' hy => exact ylds _ _ rfl rfl Try.underlying2 rfl rfl (fun w' hS => (hS.arg HB.out).cellv (i := 5) (v := .int .i64 s'.tries) rfl)
                  try simp only [Act.put, List.getElem_toArray, List.getElem_cons_succ, List.getElem_cons_zero, List.setIfInBounds_toArray, List.set_cons_succ, List.set_cons_zero]
                  apply takeH (i := 4) 80 rfl (by kernel_rfl) (by kernel_rfl) (by kernel_rfl) (fun _ _ _ h => h) rfl (by first | exact M.out | exact M.out.take 0)
                  case' hy =>
                    refine Or.inl ⟨by first | rfl | (go_simp; done), ?_⟩
                    intro w hS
                    clear hS
                    go_simp
                    try with_reducible rfl
                  try simp only [Act.put, List.getElem_toArray, List.getElem_cons_succ, List.getElem_cons_zero, List.setIfInBounds_toArray, List.set_cons_succ, List.set_cons_zero]
                  apply takeH (i := 5) 81 rfl (by kernel_rfl) (by kernel_rfl) (by kernel_rfl) (fun _ _ _ h => h) rfl (by first | exact M.out | exact M.out.take 0)
                  case' hy =>
                    refine Or.inl ⟨by first | rfl | (go_simp; done), ?_⟩
                    intro w hS
                    clear hS
                    go_simp
                    try with_reducible rfl
                  try simp only [Act.put, List.getElem_toArray, List.getElem_cons_succ, List.getElem_cons_zero, List.setIfInBounds_toArray, List.set_cons_succ, List.set_cons_zero]
                  apply takeH (i := 6) 82 rfl (by kernel_rfl) (by kernel_rfl) (by kernel_rfl) (fun _ _ _ h => h) rfl (by first | exact M.out | exact M.out.take 0)
                  case' hy =>
                    refine Or.inl ⟨by first | rfl | (go_simp; done), ?_⟩
                    intro w hS
                    clear hS
                    go_simp
                    try with_reducible rfl
                  try simp only [Act.put, List.getElem_toArray, List.getElem_cons_succ, List.getElem_cons_zero, List.setIfInBounds_toArray, List.set_cons_succ, List.set_cons_zero]
                  apply takeH (i := 7) 83 rfl (by kernel_rfl) (by kernel_rfl) (by kernel_rfl) (fun _ _ _ h => h) rfl (by first | exact M.out | exact M.out.take 0)
                  case' hy => exact ylds _ _ rfl rfl Try.underlying2 rfl rfl (fun w' hS => (hS.arg HB.out).cellv (i := 4) (v := .int .i64 B) rfl)
                  try simp only [Act.put, List.getElem_toArray, List.getElem_cons_succ, List.getElem_cons_zero, List.setIfInBounds_toArray, List.set_cons_succ, List.set_cons_zero]
                  apply takeH (i := 8) 84 rfl (by kernel_rfl) (by kernel_rfl) (by kernel_rfl) (fun _ _ _ h => h) rfl (by first | exact M.out | exact M.out.take 0)
                  case' hy =>
                    refine Or.inl ⟨by first | rfl | (go_simp; done), ?_⟩
                    intro w hS
                    clear hS
                    go_simp
                    try with_reducible rfl
                  try simp only [Act.put, List.getElem_toArray, List.getElem_cons_succ, List.getElem_cons_zero, List.setIfInBounds_toArray, List.set_cons_succ, List.set_cons_zero]
                  refine wpAnyH_done (by kernel_rfl) ?_ _
                  go_wp2
                  go_ret
                  refine ⟨bv', (by rw [← hsk]; exact congrArg (fun q => Ending.returned (.bool (Prod.fst q))) HSK.out.symm), HO.out.trans (M.out.oth sb), ?_, ?_⟩
                  · rw [← hsk, HSK.out]; exact M.out.arg HB.out
                  · rw [← hsk, HSK.out]; exact HBest.out.oth (M.out.oth sb)
                · have q3b : ((s'.tries : Int) == (B : Int)) = false := by rw [← Bool.not_eq_true, beq_iff_eq]; omega
                  have HT3 := Lib.hid (seek_tries (F := F) (p := p) (B := B) m (left.without (netSet x)) (ns ++ [x]) (c + a) ⟨s'.tries + 1, s'.least, s'.best⟩ (by show s'.tries + 1 ≤ B; omega))
                  have HSK := Lib.hid (fun q hq => skIn_in (p := p) (B := B) (r := L.drop (i + 1)) (rec := seek F p B m) (left := left) (ns := ns) (q := q) HNO.out q3 hq)
                  rw [← HA.out] at HSK
                  go_wp2_with (first
                    | ((with_reducible refine gate_dst (N := 44) rfl ?_); go_must (refine ev_get _ _ rfl rfl ((M.out.arg HB.out).cellv (i := 0) (v := .slice (some ⟨bn, on, none⟩) T.all.length cn) (by first | rfl | assumption)) Try.underlying77 rfl rfl ?_))
                    | ((with_reducible refine gate_dst (N := 47) rfl ?_); go_must (refine ev_get _ _ rfl rfl ((HSH.out _ (HO.out.trans (M.out.oth sb))).1) Try.underlying32 rfl rfl ?_))
                    | ((with_reducible refine gate_dst (N := 56) rfl ?_); go_must (refine ev_get _ _ rfl rfl ((M.out.arg HB.out).cellv (i := 2) (v := .slice (some ⟨bc, oc, none⟩) T.all.length cc) (by first | rfl | assumption)) Try.underlying79 rfl rfl ?_))
                    | ((with_reducible refine gate_dst (N := 59) rfl ?_); go_must (refine ev_get _ _ rfl rfl ((HSH.out _ (HO.out.trans (M.out.oth sb))).2.2.1) Try.underlying49 rfl rfl ?_))
                    | ((with_reducible refine gate_dst (N := 62) rfl ?_); go_must (refine ev_get _ _ rfl rfl (X3.out _ (HO.out.trans (M.out.oth sb))) Try.underlying2 rfl rfl ?_))
                    | ((with_reducible refine gate_dst (N := 67) rfl ?_); go_must (refine ev_get _ _ rfl rfl ((M.out.arg HB.out).cellv (i := 8) C8.out) Try.underlying4 rfl rfl ?_))
                    | ((with_reducible refine gate_dst (N := 73) rfl ?_); refine gate_want rfl ?_; go_must (refine ev_get _ _ rfl rfl ((M.out.arg HB.out).cellv (i := 7) C7.out) Try.underlying2 rfl rfl ?_))
                    )
                  refine region_anyH (fun w' => Mem wr w' []) (by kernel_rfl) ?_
                  have m := M.out.drew
                  clear M
                  have M := Lib.hid m
                  clear m
                  apply takeH (i := 0) 76 rfl (by kernel_rfl) (by kernel_rfl) (by kernel_rfl) (fun _ _ _ h => h) rfl (by first | exact M.out | exact M.out.take 0)
                  case' hy =>
                    refine Or.inl ⟨by first | rfl | (go_simp; done), ?_⟩
                    intro w hS
                    clear hS
                    go_simp
                    try with_reducible rfl
                  try simp only [Act.put, List.getElem_toArray, List.getElem_cons_succ, List.getElem_cons_zero, List.setIfInBounds_toArray, List.set_cons_succ, List.set_cons_zero]
                  apply takeH (i := 1) 77 rfl (by kernel_rfl) (by kernel_rfl) (by kernel_rfl) (fun _ _ _ h => h) rfl (by first | exact M.out | exact M.out.take 0)
                  case' hy =>
                    refine Or.inl ⟨by first | rfl | (go_simp; done), ?_⟩
                    intro w hS
                    clear hS
                    go_simp
                    try with_reducible rfl
                  try simp only [Act.put, List.getElem_toArray, List.getElem_cons_succ, List.getElem_cons_zero, List.setIfInBounds_toArray, List.set_cons_succ, List.set_cons_zero]
                  apply takeH (i := 2) 78 rfl (by kernel_rfl) (by kernel_rfl) (by kernel_rfl) (fun _ _ _ h => h) rfl (by first | exact M.out | exact M.out.take 0)
                  case' hy =>
                    refine Or.inl ⟨by first | rfl | (go_simp; done), ?_⟩
                    intro w hS
                    clear hS
                    go_simp
                    try with_reducible rfl
                  try simp only [Act.put, List.getElem_toArray, List.getElem_cons_succ, List.getElem_cons_zero, List.setIfInBounds_toArray, List.set_cons_succ, List.set_cons_zero]
                  apply takeH (i := 3) 79 rfl (by kernel_rfl) (by kernel_rfl) (by kernel_rfl) (fun _ _ _ h => h) rfl (by first | exact M.out | exact M.out.take 0)
                  case' hy => exact ylds _ _ rfl rfl Try.underlying2 rfl rfl (fun w' hS => (hS.arg HB.out).cellv (i := 5) (v := .int .i64 s'.tries) rfl)
                  try simp only [Act.put, List.getElem_toArray, List.getElem_cons_succ, List.getElem_cons_zero, List.setIfInBounds_toArray, List.set_cons_succ, List.set_cons_zero]
                  apply takeH (i := 4) 80 rfl (by kernel_rfl) (by kernel_rfl) (by kernel_rfl) (fun _ _ _ h => h) rfl (by first | exact M.out | exact M.out.take 0)
                  case' hy =>
                    refine Or.inl ⟨by first | rfl | (go_simp; done), ?_⟩
                    intro w hS
                    clear hS
                    go_simp
                    try with_reducible rfl
                  try simp only [Act.put, List.getElem_toArray, List.getElem_cons_succ, List.getElem_cons_zero, List.setIfInBounds_toArray, List.set_cons_succ, List.set_cons_zero]
                  apply takeH (i := 5) 81 rfl (by kernel_rfl) (by kernel_rfl) (by kernel_rfl) (fun _ _ _ h => h) rfl (by first | exact M.out | exact M.out.take 0)
                  case' hy =>
                    refine Or.inl ⟨by first | rfl | (go_simp; done), ?_⟩
                    intro w hS
                    clear hS
                    go_simp
                    try with_reducible rfl
                  try simp only [Act.put, List.getElem_toArray, List.getElem_cons_succ, List.getElem_cons_zero, List.setIfInBounds_toArray, List.set_cons_succ, List.set_cons_zero]
                  apply takeH (i := 6) 82 rfl (by kernel_rfl) (by kernel_rfl) (by kernel_rfl) (fun _ _ _ h => h) rfl (by first | exact M.out | exact M.out.take 0)
                  case' hy =>
                    refine Or.inl ⟨by first | rfl | (go_simp; done), ?_⟩
                    intro w hS
                    clear hS
                    go_simp
                    try with_reducible rfl
                  try simp only [Act.put, List.getElem_toArray, List.getElem_cons_succ, List.getElem_cons_zero, List.setIfInBounds_toArray, List.set_cons_succ, List.set_cons_zero]
                  apply takeH (i := 7) 83 rfl (by kernel_rfl) (by kernel_rfl) (by kernel_rfl) (fun _ _ _ h => h) rfl (by first | exact M.out | exact M.out.take 0)
                  case' hy => exact ylds _ _ rfl rfl Try.underlying2 rfl rfl (fun w' hS => (hS.arg HB.out).cellv (i := 4) (v := .int .i64 B) rfl)
                  try simp only [Act.put, List.getElem_toArray, List.getElem_cons_succ, List.getElem_cons_zero, List.setIfInBounds_toArray, List.set_cons_succ, List.set_cons_zero]
                  apply takeH (i := 8) 84 rfl (by kernel_rfl) (by kernel_rfl) (by kernel_rfl) (fun _ _ _ h => h) rfl (by first | exact M.out | exact M.out.take 0)
                  case' hy =>
                    refine Or.inl ⟨by first | rfl | (go_simp; done), ?_⟩
                    intro w hS
                    clear hS
                    go_simp
                    try with_reducible rfl
                  try simp only [Act.put, List.getElem_toArray, List.getElem_cons_succ, List.getElem_cons_zero, List.setIfInBounds_toArray, List.set_cons_succ, List.set_cons_zero]
                  refine wpAnyH_done (by kernel_rfl) ?_ _
                  go_wp2_with (first
                    | ((with_reducible refine gate_dst (N := 88) rfl ?_); go_must (refine ev_get _ _ rfl rfl ((M.out.arg HB.out).cellv (i := 5) (v := .int .i64 s'.tries) (by first | rfl | assumption)) Try.underlying2 rfl rfl ?_))
                    | ((with_reducible refine gate_store (x := .tmp 91) rfl ?_); go_must (refine M.out.ev_poke (j := 5) _ _ _ rfl rfl HB.out rfl _ rfl (by simp [s4c]) sz2 rfl rfl ?_); intro v91 w91 m ho91 hb91; have M := Lib.hid m; clear m; have HO91 := Lib.hid ho91; have HX91 := Lib.hid hb91; clear ho91 hb91)
                    )
                  have hlt91 : sb < v91.heap.size := HX91.out.lt
                  have HLT := Lib.hid hlt91
                  have HOX := Lib.hid (HO.out.trans HO91.out)
                  have hx91 : Blk v91 sb 81 (s4c (.slice (some ⟨bn, on, none⟩) T.all.length cn) (.slice (some ⟨bk, ok, none⟩) T.all.length ck) (.slice (some ⟨bc, oc, none⟩) T.all.length cc) al B bv' ⟨s'.tries + 1, s'.least, s'.best⟩) := HX91.out
                  clear HX91
                  have HX91 := Lib.hid hx91
                  clear hx91 hlt91
                  refine region_anyH (fun w' => Mem v91 w' []) (by kernel_rfl) ?_
                  have m := M.out.drew
                  clear M
                  have M := Lib.hid m
                  clear m
                  apply takeH (i := 1) 93 rfl (by kernel_rfl) (by kernel_rfl) (by kernel_rfl) (fun _ _ _ h => h) rfl (by exact M.out.take 0)
                  case' hy =>
                    refine Or.inl ⟨by first | rfl | (go_simp; done), ?_⟩
                    intro w hS
                    clear hS
                    go_simp
                    try with_reducible rfl
                  try simp only [Act.put, List.getElem_toArray, List.getElem_cons_succ, List.getElem_cons_zero, List.setIfInBounds_toArray, List.set_cons_succ, List.set_cons_zero]
                  apply takeH (i := 3) 95 rfl (by kernel_rfl) (by kernel_rfl) (by kernel_rfl) (fun _ _ _ h => h) rfl (by exact M.out.take 0)
                  case' hy =>
                    refine Or.inl ⟨by first | rfl | (go_simp; done), ?_⟩
                    intro w hS
                    clear hS
                    go_simp
                    try with_reducible rfl
                  try simp only [Act.put, List.getElem_toArray, List.getElem_cons_succ, List.getElem_cons_zero, List.setIfInBounds_toArray, List.set_cons_succ, List.set_cons_zero]
                  apply takeH (i := 4) 96 rfl (by kernel_rfl) (by kernel_rfl) (by kernel_rfl) (fun _ _ _ h => h) rfl (by exact M.out.take 0)
                  case' hy =>
                    refine Or.inl ⟨by first | rfl | (go_simp; done), ?_⟩
                    intro w hS
                    clear hS
                    go_simp
                    try with_reducible rfl
                  try simp only [Act.put, List.getElem_toArray, List.getElem_cons_succ, List.getElem_cons_zero, List.setIfInBounds_toArray, List.set_cons_succ, List.set_cons_zero]
                  apply takeH (i := 5) 97 rfl (by kernel_rfl) (by kernel_rfl) (by kernel_rfl) (fun _ _ _ h => h) rfl (by exact M.out.take 0)
                  case' hy =>
                    refine Or.inl ⟨by first | rfl | (go_simp; done), ?_⟩
                    intro w hS
                    clear hS
                    go_simp
                    try with_reducible rfl
                  try simp only [Act.put, List.getElem_toArray, List.getElem_cons_succ, List.getElem_cons_zero, List.setIfInBounds_toArray, List.set_cons_succ, List.set_cons_zero]
                  apply takeH (i := 6) 98 rfl (by kernel_rfl) (by kernel_rfl) (by kernel_rfl) (fun _ _ _ h => h) rfl (by exact M.out.take 0)
                  case' hy => exact ylds _ _ rfl rfl Try.underlying77 rfl rfl (fun w' hS => (hS.arg HX91.out).cellv (i := 0) (v := .slice (some ⟨bn, on, none⟩) T.all.length cn) rfl)
                  try simp only [Act.put, List.getElem_toArray, List.getElem_cons_succ, List.getElem_cons_zero, List.setIfInBounds_toArray, List.set_cons_succ, List.set_cons_zero]
                  apply takeH (i := 7) 99 rfl (by kernel_rfl) (by kernel_rfl) (by kernel_rfl) (fun _ _ _ h => h) rfl (by exact M.out.take 0)
                  case' hy =>
                    refine Or.inl ⟨by first | rfl | (go_simp; done), ?_⟩
                    intro w hS
                    clear hS
                    go_simp
                    try with_reducible rfl
                  try simp only [Act.put, List.getElem_toArray, List.getElem_cons_succ, List.getElem_cons_zero, List.setIfInBounds_toArray, List.set_cons_succ, List.set_cons_zero]
                  apply takeH (i := 8) 100 rfl (by kernel_rfl) (by kernel_rfl) (by kernel_rfl) (fun _ _ _ h => h) rfl (by exact M.out.take 0)
                  case' hy =>
                    refine Or.inl ⟨by first | rfl | (go_simp; done), ?_⟩
                    intro w hS
                    clear hS
                    go_simp
                    try with_reducible rfl
                  try simp only [Act.put, List.getElem_toArray, List.getElem_cons_succ, List.getElem_cons_zero, List.setIfInBounds_toArray, List.set_cons_succ, List.set_cons_zero]
                  apply takeH (i := 9) 101 rfl (by kernel_rfl) (by kernel_rfl) (by kernel_rfl) (fun _ _ _ h => h) rfl (by exact M.out.take 0)
                  case' hy => exact ylds _ _ rfl rfl Try.underlying32 rfl rfl (fun w' hS => (HSH.out w' (HOX.out.trans (hS.oth sb))).1)
                  try simp only [Act.put, List.getElem_toArray, List.getElem_cons_succ, List.getElem_cons_zero, List.setIfInBounds_toArray, List.set_cons_succ, List.set_cons_zero]
                  apply takeH (i := 10) 102 rfl (by kernel_rfl) (by kernel_rfl) (by kernel_rfl) (fun _ _ _ h => h) rfl (by exact M.out.take 0)
                  case' hy =>
                    refine Or.inl ⟨by first | rfl | (go_simp; done), ?_⟩
                    intro w hS
                    clear hS
                    go_simp
                    try with_reducible rfl
                  try simp only [Act.put, List.getElem_toArray, List.getElem_cons_succ, List.getElem_cons_zero, List.setIfInBounds_toArray, List.set_cons_succ, List.set_cons_zero]
                  apply takeH (i := 11) 103 rfl (by kernel_rfl) (by kernel_rfl) (by kernel_rfl) (fun _ _ _ h => h) rfl (by exact M.out.take 0)
                  case' hy =>
                    refine Or.inl ⟨by first | rfl | (go_simp; done), ?_⟩
                    intro w hS
                    clear hS
                    go_simp
                    try with_reducible rfl
                  try simp only [Act.put, List.getElem_toArray, List.getElem_cons_succ, List.getElem_cons_zero, List.setIfInBounds_toArray, List.set_cons_succ, List.set_cons_zero]
                  apply takeH (i := 12) 104 rfl (by kernel_rfl) (by kernel_rfl) (by kernel_rfl) (fun _ _ _ h => h) rfl (by exact M.out.take 0)
                  case' hy => exact yieldsIf_load_mid (by first | rfl | (go_simp; done)) _ _ rfl _ _ rfl _ _ (fun w' hS => range_at Net.vl ((HSH.out w' (HOX.out.trans (hS.oth sb))).2.2.2.1.range HLP.out) HXK.out) Try.underlying65 rfl sz65
                  try simp only [Act.put, List.getElem_toArray, List.getElem_cons_succ, List.getElem_cons_zero, List.setIfInBounds_toArray, List.set_cons_succ, List.set_cons_zero]
                  refine any2H 0 13 (by kernel_rfl) rfl rfl (fun K hK => ?_) (fun K hK => ?_)
                  rotate_right 1
                  case' _ =>
                    go_wp2_with (first | ((with_reducible refine gate_dst (N := 92) rfl ?_); go_must (refine M.out.ev_bs0 elem_Net rfl rfl ?_); intro gv92 wv92 m; simp only [List.cons_append, List.nil_append] at m; have M := Lib.hid m; clear m) | ((with_reducible refine gate_dst (N := 94) rfl ?_); go_must (first | (refine M.out.ev_appends 0 elem_Net rfl _ _ rfl rfl rfl rfl (H.out.sl _ (HOX.out.trans (M.out.oth sb))) H.out.empt (by omega) (flat_one Net.ones _) (by have := H.out.nl; omega) (by decide) ?_) | (refine M.out.ev_appends 1 elem_Net rfl _ _ rfl rfl rfl rfl (H.out.sl _ (HOX.out.trans (M.out.oth sb))) H.out.empt (by omega) (flat_one Net.ones _) (by have := H.out.nl; omega) (by decide) ?_)); intro v94 w94 m; simp only [List.set_cons_succ, List.set_cons_zero, List.nil_append, Nat.zero_add] at m; have M := Lib.hid m; clear m) | ((with_reducible refine gate_dst (N := 105) rfl ?_); go_must (refine M.out.ev_bs1 elem_Net rfl _ rfl x.vals.toArray rfl rfl (by decide) ?_); intro g105 w105 m; simp only [List.cons_append, List.nil_append] at m; have M := Lib.hid m; clear m) | ((with_reducible refine gate_dst (N := 106) rfl ?_); go_must (first | (refine M.out.ev_append1 0 1 elem_Net rfl _ _ rfl rfl rfl rfl rfl rfl (Net.one x) (by have := H.out.nl; omega) (by decide) ?_; intro v106 w106 m; simp only [List.set_cons_succ, List.set_cons_zero] at m; obtain ⟨B106, c106, rfl, hc106, _⟩ := m.row_slice 0 rfl; have HIN := Lib.hid (H.out.next hg HZ.out HM.out (s' := s') (bv' := bv') (v := v91) (HOX.out.trans (m.oth sb)) (by rw [← HAL.out]; exact m.arg HX91.out) (HBest.out.oth (HO91.out.trans (m.oth sb))) (by omega) (m.row 0 rfl) HLT.out hc106 (m.row_none 0 rfl))) | (refine M.out.ev_append1 1 0 elem_Net rfl _ _ rfl rfl rfl rfl rfl rfl (Net.one x) (by have := H.out.nl; omega) (by decide) ?_; intro v106 w106 m; simp only [List.set_cons_succ, List.set_cons_zero] at m; obtain ⟨B106, c106, rfl, hc106, _⟩ := m.row_slice 1 rfl; have HIN := Lib.hid (H.out.next hg HZ.out HM.out (s' := s') (bv' := bv') (v := v91) (HOX.out.trans (m.oth sb)) (by rw [← HAL.out]; exact m.arg HX91.out) (HBest.out.oth (HO91.out.trans (m.oth sb))) (by omega) (m.row 1 rfl) HLT.out hc106 (m.row_none 1 rfl)))); rw [← HA.out] at HIN; have M := Lib.hid m; clear m))
                    refine onward_normal (hK _ _ ⟨(by exact M.out.take 0), ?_⟩)
                    clear hK K
                    try simp only [Act.put, List.getElem_toArray, List.getElem_cons_succ, List.getElem_cons_zero, List.setIfInBounds_toArray, List.set_cons_succ, List.set_cons_zero]
                    refine any1H 0 (by kernel_rfl) rfl (fun K hK => ?_)
                    go_wp2_with (first | ((with_reducible refine gate_dst (N := 92) rfl ?_); go_must (refine M.out.ev_bs0 elem_Net rfl rfl ?_); intro gv92 wv92 m; simp only [List.cons_append, List.nil_append] at m; have M := Lib.hid m; clear m) | ((with_reducible refine gate_dst (N := 94) rfl ?_); go_must (first | (refine M.out.ev_appends 0 elem_Net rfl _ _ rfl rfl rfl rfl (H.out.sl _ (HOX.out.trans (M.out.oth sb))) H.out.empt (by omega) (flat_one Net.ones _) (by have := H.out.nl; omega) (by decide) ?_) | (refine M.out.ev_appends 1 elem_Net rfl _ _ rfl rfl rfl rfl (H.out.sl _ (HOX.out.trans (M.out.oth sb))) H.out.empt (by omega) (flat_one Net.ones _) (by have := H.out.nl; omega) (by decide) ?_)); intro v94 w94 m; simp only [List.set_cons_succ, List.set_cons_zero, List.nil_append, Nat.zero_add] at m; have M := Lib.hid m; clear m) | ((with_reducible refine gate_dst (N := 105) rfl ?_); go_must (refine M.out.ev_bs1 elem_Net rfl _ rfl x.vals.toArray rfl rfl (by decide) ?_); intro g105 w105 m; simp only [List.cons_append, List.nil_append] at m; have M := Lib.hid m; clear m) | ((with_reducible refine gate_dst (N := 106) rfl ?_); go_must (first | (refine M.out.ev_append1 0 1 elem_Net rfl _ _ rfl rfl rfl rfl rfl rfl (Net.one x) (by have := H.out.nl; omega) (by decide) ?_; intro v106 w106 m; simp only [List.set_cons_succ, List.set_cons_zero] at m; obtain ⟨B106, c106, rfl, hc106, _⟩ := m.row_slice 0 rfl; have HIN := Lib.hid (H.out.next hg HZ.out HM.out (s' := s') (bv' := bv') (v := v91) (HOX.out.trans (m.oth sb)) (by rw [← HAL.out]; exact m.arg HX91.out) (HBest.out.oth (HO91.out.trans (m.oth sb))) (by omega) (m.row 0 rfl) HLT.out hc106 (m.row_none 0 rfl))) | (refine M.out.ev_append1 1 0 elem_Net rfl _ _ rfl rfl rfl rfl rfl rfl (Net.one x) (by have := H.out.nl; omega) (by decide) ?_; intro v106 w106 m; simp only [List.set_cons_succ, List.set_cons_zero] at m; obtain ⟨B106, c106, rfl, hc106, _⟩ := m.row_slice 1 rfl; have HIN := Lib.hid (H.out.next hg HZ.out HM.out (s' := s') (bv' := bv') (v := v91) (HOX.out.trans (m.oth sb)) (by rw [← HAL.out]; exact m.arg HX91.out) (HBest.out.oth (HO91.out.trans (m.oth sb))) (by omega) (m.row 1 rfl) HLT.out hc106 (m.row_none 1 rfl)))); rw [← HA.out] at HIN; have M := Lib.hid m; clear m))
                    refine onward_normal (hK _ _ ⟨(by exact M.out.take 0), ?_⟩)
                    clear hK K
                    try simp only [Act.put, List.getElem_toArray, List.getElem_cons_succ, List.getElem_cons_zero, List.setIfInBounds_toArray, List.set_cons_succ, List.set_cons_zero]
                    refine any1H 2 (by kernel_rfl) rfl (fun K hK => ?_)
                    go_wp2_with (first | ((with_reducible refine gate_dst (N := 92) rfl ?_); go_must (refine M.out.ev_bs0 elem_Net rfl rfl ?_); intro gv92 wv92 m; simp only [List.cons_append, List.nil_append] at m; have M := Lib.hid m; clear m) | ((with_reducible refine gate_dst (N := 94) rfl ?_); go_must (first | (refine M.out.ev_appends 0 elem_Net rfl _ _ rfl rfl rfl rfl (H.out.sl _ (HOX.out.trans (M.out.oth sb))) H.out.empt (by omega) (flat_one Net.ones _) (by have := H.out.nl; omega) (by decide) ?_) | (refine M.out.ev_appends 1 elem_Net rfl _ _ rfl rfl rfl rfl (H.out.sl _ (HOX.out.trans (M.out.oth sb))) H.out.empt (by omega) (flat_one Net.ones _) (by have := H.out.nl; omega) (by decide) ?_)); intro v94 w94 m; simp only [List.set_cons_succ, List.set_cons_zero, List.nil_append, Nat.zero_add] at m; have M := Lib.hid m; clear m) | ((with_reducible refine gate_dst (N := 105) rfl ?_); go_must (refine M.out.ev_bs1 elem_Net rfl _ rfl x.vals.toArray rfl rfl (by decide) ?_); intro g105 w105 m; simp only [List.cons_append, List.nil_append] at m; have M := Lib.hid m; clear m) | ((with_reducible refine gate_dst (N := 106) rfl ?_); go_must (first | (refine M.out.ev_append1 0 1 elem_Net rfl _ _ rfl rfl rfl rfl rfl rfl (Net.one x) (by have := H.out.nl; omega) (by decide) ?_; intro v106 w106 m; simp only [List.set_cons_succ, List.set_cons_zero] at m; obtain ⟨B106, c106, rfl, hc106, _⟩ := m.row_slice 0 rfl; have HIN := Lib.hid (H.out.next hg HZ.out HM.out (s' := s') (bv' := bv') (v := v91) (HOX.out.trans (m.oth sb)) (by rw [← HAL.out]; exact m.arg HX91.out) (HBest.out.oth (HO91.out.trans (m.oth sb))) (by omega) (m.row 0 rfl) HLT.out hc106 (m.row_none 0 rfl))) | (refine M.out.ev_append1 1 0 elem_Net rfl _ _ rfl rfl rfl rfl rfl rfl (Net.one x) (by have := H.out.nl; omega) (by decide) ?_; intro v106 w106 m; simp only [List.set_cons_succ, List.set_cons_zero] at m; obtain ⟨B106, c106, rfl, hc106, _⟩ := m.row_slice 1 rfl; have HIN := Lib.hid (H.out.next hg HZ.out HM.out (s' := s') (bv' := bv') (v := v91) (HOX.out.trans (m.oth sb)) (by rw [← HAL.out]; exact m.arg HX91.out) (HBest.out.oth (HO91.out.trans (m.oth sb))) (by omega) (m.row 1 rfl) HLT.out hc106 (m.row_none 1 rfl)))); rw [← HA.out] at HIN; have M := Lib.hid m; clear m))
                    refine onward_normal (hK _ _ ⟨(by exact M.out.take 0), ?_⟩)
                    clear hK K
                    try simp only [Act.put, List.getElem_toArray, List.getElem_cons_succ, List.getElem_cons_zero, List.setIfInBounds_toArray, List.set_cons_succ, List.set_cons_zero]
                    refine any1H 14 (by kernel_rfl) rfl (fun K hK => ?_)
                    go_wp2_with (first | ((with_reducible refine gate_dst (N := 92) rfl ?_); go_must (refine M.out.ev_bs0 elem_Net rfl rfl ?_); intro gv92 wv92 m; simp only [List.cons_append, List.nil_append] at m; have M := Lib.hid m; clear m) | ((with_reducible refine gate_dst (N := 94) rfl ?_); go_must (first | (refine M.out.ev_appends 0 elem_Net rfl _ _ rfl rfl rfl rfl (H.out.sl _ (HOX.out.trans (M.out.oth sb))) H.out.empt (by omega) (flat_one Net.ones _) (by have := H.out.nl; omega) (by decide) ?_) | (refine M.out.ev_appends 1 elem_Net rfl _ _ rfl rfl rfl rfl (H.out.sl _ (HOX.out.trans (M.out.oth sb))) H.out.empt (by omega) (flat_one Net.ones _) (by have := H.out.nl; omega) (by decide) ?_)); intro v94 w94 m; simp only [List.set_cons_succ, List.set_cons_zero, List.nil_append, Nat.zero_add] at m; have M := Lib.hid m; clear m) | ((with_reducible refine gate_dst (N := 105) rfl ?_); go_must (refine M.out.ev_bs1 elem_Net rfl _ rfl x.vals.toArray rfl rfl (by decide) ?_); intro g105 w105 m; simp only [List.cons_append, List.nil_append] at m; have M := Lib.hid m; clear m) | ((with_reducible refine gate_dst (N := 106) rfl ?_); go_must (first | (refine M.out.ev_append1 0 1 elem_Net rfl _ _ rfl rfl rfl rfl rfl rfl (Net.one x) (by have := H.out.nl; omega) (by decide) ?_; intro v106 w106 m; simp only [List.set_cons_succ, List.set_cons_zero] at m; obtain ⟨B106, c106, rfl, hc106, _⟩ := m.row_slice 0 rfl; have HIN := Lib.hid (H.out.next hg HZ.out HM.out (s' := s') (bv' := bv') (v := v91) (HOX.out.trans (m.oth sb)) (by rw [← HAL.out]; exact m.arg HX91.out) (HBest.out.oth (HO91.out.trans (m.oth sb))) (by omega) (m.row 0 rfl) HLT.out hc106 (m.row_none 0 rfl))) | (refine M.out.ev_append1 1 0 elem_Net rfl _ _ rfl rfl rfl rfl rfl rfl (Net.one x) (by have := H.out.nl; omega) (by decide) ?_; intro v106 w106 m; simp only [List.set_cons_succ, List.set_cons_zero] at m; obtain ⟨B106, c106, rfl, hc106, _⟩ := m.row_slice 1 rfl; have HIN := Lib.hid (H.out.next hg HZ.out HM.out (s' := s') (bv' := bv') (v := v91) (HOX.out.trans (m.oth sb)) (by rw [← HAL.out]; exact m.arg HX91.out) (HBest.out.oth (HO91.out.trans (m.oth sb))) (by omega) (m.row 1 rfl) HLT.out hc106 (m.row_none 1 rfl)))); rw [← HA.out] at HIN; have M := Lib.hid m; clear m))
                    refine onward_normal (hK _ _ ⟨(by exact M.out.take 0), ?_⟩)
                    clear hK K
                    try simp only [Act.put, List.getElem_toArray, List.getElem_cons_succ, List.getElem_cons_zero, List.setIfInBounds_toArray, List.set_cons_succ, List.set_cons_zero]
                    apply takeH (i := 15) 12 rfl (by kernel_rfl) (by kernel_rfl) (by kernel_rfl) (fun _ _ _ h => h) rfl (by exact M.out.take 0)
                    case' hy =>
                      refine Or.inl ⟨by first | rfl | (go_simp; done), ?_⟩
                      intro w hS
                      clear hS
                      go_simp
                      try with_reducible rfl
                    try simp only [Act.put, List.getElem_toArray, List.getElem_cons_succ, List.getElem_cons_zero, List.setIfInBounds_toArray, List.set_cons_succ, List.set_cons_zero]
                    refine wpAnyH_done (by kernel_rfl) ?_ _
                  rotate_right 1
                  case' _ =>
                    go_wp2_with (first | ((with_reducible refine gate_dst (N := 92) rfl ?_); go_must (refine M.out.ev_bs0 elem_Net rfl rfl ?_); intro gv92 wv92 m; simp only [List.cons_append, List.nil_append] at m; have M := Lib.hid m; clear m) | ((with_reducible refine gate_dst (N := 94) rfl ?_); go_must (first | (refine M.out.ev_appends 0 elem_Net rfl _ _ rfl rfl rfl rfl (H.out.sl _ (HOX.out.trans (M.out.oth sb))) H.out.empt (by omega) (flat_one Net.ones _) (by have := H.out.nl; omega) (by decide) ?_) | (refine M.out.ev_appends 1 elem_Net rfl _ _ rfl rfl rfl rfl (H.out.sl _ (HOX.out.trans (M.out.oth sb))) H.out.empt (by omega) (flat_one Net.ones _) (by have := H.out.nl; omega) (by decide) ?_)); intro v94 w94 m; simp only [List.set_cons_succ, List.set_cons_zero, List.nil_append, Nat.zero_add] at m; have M := Lib.hid m; clear m) | ((with_reducible refine gate_dst (N := 105) rfl ?_); go_must (refine M.out.ev_bs1 elem_Net rfl _ rfl x.vals.toArray rfl rfl (by decide) ?_); intro g105 w105 m; simp only [List.cons_append, List.nil_append] at m; have M := Lib.hid m; clear m) | ((with_reducible refine gate_dst (N := 106) rfl ?_); go_must (first | (refine M.out.ev_append1 0 1 elem_Net rfl _ _ rfl rfl rfl rfl rfl rfl (Net.one x) (by have := H.out.nl; omega) (by decide) ?_; intro v106 w106 m; simp only [List.set_cons_succ, List.set_cons_zero] at m; obtain ⟨B106, c106, rfl, hc106, _⟩ := m.row_slice 0 rfl; have HIN := Lib.hid (H.out.next hg HZ.out HM.out (s' := s') (bv' := bv') (v := v91) (HOX.out.trans (m.oth sb)) (by rw [← HAL.out]; exact m.arg HX91.out) (HBest.out.oth (HO91.out.trans (m.oth sb))) (by omega) (m.row 0 rfl) HLT.out hc106 (m.row_none 0 rfl))) | (refine M.out.ev_append1 1 0 elem_Net rfl _ _ rfl rfl rfl rfl rfl rfl (Net.one x) (by have := H.out.nl; omega) (by decide) ?_; intro v106 w106 m; simp only [List.set_cons_succ, List.set_cons_zero] at m; obtain ⟨B106, c106, rfl, hc106, _⟩ := m.row_slice 1 rfl; have HIN := Lib.hid (H.out.next hg HZ.out HM.out (s' := s') (bv' := bv') (v := v91) (HOX.out.trans (m.oth sb)) (by rw [← HAL.out]; exact m.arg HX91.out) (HBest.out.oth (HO91.out.trans (m.oth sb))) (by omega) (m.row 1 rfl) HLT.out hc106 (m.row_none 1 rfl)))); rw [← HA.out] at HIN; have M := Lib.hid m; clear m))
                    refine onward_normal (hK _ _ ⟨(by exact M.out.take 0), ?_⟩)
                    clear hK K
                    try simp only [Act.put, List.getElem_toArray, List.getElem_cons_succ, List.getElem_cons_zero, List.setIfInBounds_toArray, List.set_cons_succ, List.set_cons_zero]
                    refine any2H 2 13 (by kernel_rfl) rfl rfl (fun K hK => ?_) (fun K hK => ?_)
                    rotate_right 1
                    case' _ =>
                      go_wp2_with (first | ((with_reducible refine gate_dst (N := 92) rfl ?_); go_must (refine M.out.ev_bs0 elem_Net rfl rfl ?_); intro gv92 wv92 m; simp only [List.cons_append, List.nil_append] at m; have M := Lib.hid m; clear m) | ((with_reducible refine gate_dst (N := 94) rfl ?_); go_must (first | (refine M.out.ev_appends 0 elem_Net rfl _ _ rfl rfl rfl rfl (H.out.sl _ (HOX.out.trans (M.out.oth sb))) H.out.empt (by omega) (flat_one Net.ones _) (by have := H.out.nl; omega) (by decide) ?_) | (refine M.out.ev_appends 1 elem_Net rfl _ _ rfl rfl rfl rfl (H.out.sl _ (HOX.out.trans (M.out.oth sb))) H.out.empt (by omega) (flat_one Net.ones _) (by have := H.out.nl; omega) (by decide) ?_)); intro v94 w94 m; simp only [List.set_cons_succ, List.set_cons_zero, List.nil_append, Nat.zero_add] at m; have M := Lib.hid m; clear m) | ((with_reducible refine gate_dst (N := 105) rfl ?_); go_must (refine M.out.ev_bs1 elem_Net rfl _ rfl x.vals.toArray rfl rfl (by decide) ?_); intro g105 w105 m; simp only [List.cons_append, List.nil_append] at m; have M := Lib.hid m; clear m) | ((with_reducible refine gate_dst (N := 106) rfl ?_); go_must (first | (refine M.out.ev_append1 0 1 elem_Net rfl _ _ rfl rfl rfl rfl rfl rfl (Net.one x) (by have := H.out.nl; omega) (by decide) ?_; intro v106 w106 m; simp only [List.set_cons_succ, List.set_cons_zero] at m; obtain ⟨B106, c106, rfl, hc106, _⟩ := m.row_slice 0 rfl; have HIN := Lib.hid (H.out.next hg HZ.out HM.out (s' := s') (bv' := bv') (v := v91) (HOX.out.trans (m.oth sb)) (by rw [← HAL.out]; exact m.arg HX91.out) (HBest.out.oth (HO91.out.trans (m.oth sb))) (by omega) (m.row 0 rfl) HLT.out hc106 (m.row_none 0 rfl))) | (refine M.out.ev_append1 1 0 elem_Net rfl _ _ rfl rfl rfl rfl rfl rfl (Net.one x) (by have := H.out.nl; omega) (by decide) ?_; intro v106 w106 m; simp only [List.set_cons_succ, List.set_cons_zero] at m; obtain ⟨B106, c106, rfl, hc106, _⟩ := m.row_slice 1 rfl; have HIN := Lib.hid (H.out.next hg HZ.out HM.out (s' := s') (bv' := bv') (v := v91) (HOX.out.trans (m.oth sb)) (by rw [← HAL.out]; exact m.arg HX91.out) (HBest.out.oth (HO91.out.trans (m.oth sb))) (by omega) (m.row 1 rfl) HLT.out hc106 (m.row_none 1 rfl)))); rw [← HA.out] at HIN; have M := Lib.hid m; clear m))
                      refine onward_normal (hK _ _ ⟨(by exact M.out.take 0), ?_⟩)
                      clear hK K
                      try simp only [Act.put, List.getElem_toArray, List.getElem_cons_succ, List.getElem_cons_zero, List.setIfInBounds_toArray, List.set_cons_succ, List.set_cons_zero]
                      refine any1H 2 (by kernel_rfl) rfl (fun K hK => ?_)
                      go_wp2_with (first | ((with_reducible refine gate_dst (N := 92) rfl ?_); go_must (refine M.out.ev_bs0 elem_Net rfl rfl ?_); intro gv92 wv92 m; simp only [List.cons_append, List.nil_append] at m; have M := Lib.hid m; clear m) | ((with_reducible refine gate_dst (N := 94) rfl ?_); go_must (first | (refine M.out.ev_appends 0 elem_Net rfl _ _ rfl rfl rfl rfl (H.out.sl _ (HOX.out.trans (M.out.oth sb))) H.out.empt (by omega) (flat_one Net.ones _) (by have := H.out.nl; omega) (by decide) ?_) | (refine M.out.ev_appends 1 elem_Net rfl _ _ rfl rfl rfl rfl (H.out.sl _ (HOX.out.trans (M.out.oth sb))) H.out.empt (by omega) (flat_one Net.ones _) (by have := H.out.nl; omega) (by decide) ?_)); intro v94 w94 m; simp only [List.set_cons_succ, List.set_cons_zero, List.nil_append, Nat.zero_add] at m; have M := Lib.hid m; clear m) | ((with_reducible refine gate_dst (N := 105) rfl ?_); go_must (refine M.out.ev_bs1 elem_Net rfl _ rfl x.vals.toArray rfl rfl (by decide) ?_); intro g105 w105 m; simp only [List.cons_append, List.nil_append] at m; have M := Lib.hid m; clear m) | ((with_reducible refine gate_dst (N := 106) rfl ?_); go_must (first | (refine M.out.ev_append1 0 1 elem_Net rfl _ _ rfl rfl rfl rfl rfl rfl (Net.one x) (by have := H.out.nl; omega) (by decide) ?_; intro v106 w106 m; simp only [List.set_cons_succ, List.set_cons_zero] at m; obtain ⟨B106, c106, rfl, hc106, _⟩ := m.row_slice 0 rfl; have HIN := Lib.hid (H.out.next hg HZ.out HM.out (s' := s') (bv' := bv') (v := v91) (HOX.out.trans (m.oth sb)) (by rw [← HAL.out]; exact m.arg HX91.out) (HBest.out.oth (HO91.out.trans (m.oth sb))) (by omega) (m.row 0 rfl) HLT.out hc106 (m.row_none 0 rfl))) | (refine M.out.ev_append1 1 0 elem_Net rfl _ _ rfl rfl rfl rfl rfl rfl (Net.one x) (by have := H.out.nl; omega) (by decide) ?_; intro v106 w106 m; simp only [List.set_cons_succ, List.set_cons_zero] at m; obtain ⟨B106, c106, rfl, hc106, _⟩ := m.row_slice 1 rfl; have HIN := Lib.hid (H.out.next hg HZ.out HM.out (s' := s') (bv' := bv') (v := v91) (HOX.out.trans (m.oth sb)) (by rw [← HAL.out]; exact m.arg HX91.out) (HBest.out.oth (HO91.out.trans (m.oth sb))) (by omega) (m.row 1 rfl) HLT.out hc106 (m.row_none 1 rfl)))); rw [← HA.out] at HIN; have M := Lib.hid m; clear m))
                      refine onward_normal (hK _ _ ⟨(by exact M.out.take 0), ?_⟩)
                      clear hK K
                      try simp only [Act.put, List.getElem_toArray, List.getElem_cons_succ, List.getElem_cons_zero, List.setIfInBounds_toArray, List.set_cons_succ, List.set_cons_zero]
                      refine any1H 14 (by kernel_rfl) rfl (fun K hK => ?_)
                      go_wp2_with (first | ((with_reducible refine gate_dst (N := 92) rfl ?_); go_must (refine M.out.ev_bs0 elem_Net rfl rfl ?_); intro gv92 wv92 m; simp only [List.cons_append, List.nil_append] at m; have M := Lib.hid m; clear m) | ((with_reducible refine gate_dst (N := 94) rfl ?_); go_must (first | (refine M.out.ev_appends 0 elem_Net rfl _ _ rfl rfl rfl rfl (H.out.sl _ (HOX.out.trans (M.out.oth sb))) H.out.empt (by omega) (flat_one Net.ones _) (by have := H.out.nl; omega) (by decide) ?_) | (refine M.out.ev_appends 1 elem_Net rfl _ _ rfl rfl rfl rfl (H.out.sl _ (HOX.out.trans (M.out.oth sb))) H.out.empt (by omega) (flat_one Net.ones _) (by have := H.out.nl; omega) (by decide) ?_)); intro v94 w94 m; simp only [List.set_cons_succ, List.set_cons_zero, List.nil_append, Nat.zero_add] at m; have M := Lib.hid m; clear m) | ((with_reducible refine gate_dst (N := 105) rfl ?_); go_must (refine M.out.ev_bs1 elem_Net rfl _ rfl x.vals.toArray rfl rfl (by decide) ?_); intro g105 w105 m; simp only [List.cons_append, List.nil_append] at m; have M := Lib.hid m; clear m) | ((with_reducible refine gate_dst (N := 106) rfl ?_); go_must (first | (refine M.out.ev_append1 0 1 elem_Net rfl _ _ rfl rfl rfl rfl rfl rfl (Net.one x) (by have := H.out.nl; omega) (by decide) ?_; intro v106 w106 m; simp only [List.set_cons_succ, List.set_cons_zero] at m; obtain ⟨B106, c106, rfl, hc106, _⟩ := m.row_slice 0 rfl; have HIN := Lib.hid (H.out.next hg HZ.out HM.out (s' := s') (bv' := bv') (v := v91) (HOX.out.trans (m.oth sb)) (by rw [← HAL.out]; exact m.arg HX91.out) (HBest.out.oth (HO91.out.trans (m.oth sb))) (by omega) (m.row 0 rfl) HLT.out hc106 (m.row_none 0 rfl))) | (refine M.out.ev_append1 1 0 elem_Net rfl _ _ rfl rfl rfl rfl rfl rfl (Net.one x) (by have := H.out.nl; omega) (by decide) ?_; intro v106 w106 m; simp only [List.set_cons_succ, List.set_cons_zero] at m; obtain ⟨B106, c106, rfl, hc106, _⟩ := m.row_slice 1 rfl; have HIN := Lib.hid (H.out.next hg HZ.out HM.out (s' := s') (bv' := bv') (v := v91) (HOX.out.trans (m.oth sb)) (by rw [← HAL.out]; exact m.arg HX91.out) (HBest.out.oth (HO91.out.trans (m.oth sb))) (by omega) (m.row 1 rfl) HLT.out hc106 (m.row_none 1 rfl)))); rw [← HA.out] at HIN; have M := Lib.hid m; clear m))
                      refine onward_normal (hK _ _ ⟨(by exact M.out.take 0), ?_⟩)
                      clear hK K
                      try simp only [Act.put, List.getElem_toArray, List.getElem_cons_succ, List.getElem_cons_zero, List.setIfInBounds_toArray, List.set_cons_succ, List.set_cons_zero]
                      apply takeH (i := 15) 12 rfl (by kernel_rfl) (by kernel_rfl) (by kernel_rfl) (fun _ _ _ h => h) rfl (by exact M.out.take 0)
                      case' hy =>
                        refine Or.inl ⟨by first | rfl | (go_simp; done), ?_⟩
                        intro w hS
                        clear hS
                        go_simp
                        try with_reducible rfl
                      try simp only [Act.put, List.getElem_toArray, List.getElem_cons_succ, List.getElem_cons_zero, List.setIfInBounds_toArray, List.set_cons_succ, List.set_cons_zero]
                      refine wpAnyH_done (by kernel_rfl) ?_ _
                    rotate_right 1
                    case' _ =>
                      go_wp2_with (first | ((with_reducible refine gate_dst (N := 92) rfl ?_); go_must (refine M.out.ev_bs0 elem_Net rfl rfl ?_); intro gv92 wv92 m; simp only [List.cons_append, List.nil_append] at m; have M := Lib.hid m; clear m) | ((with_reducible refine gate_dst (N := 94) rfl ?_); go_must (first | (refine M.out.ev_appends 0 elem_Net rfl _ _ rfl rfl rfl rfl (H.out.sl _ (HOX.out.trans (M.out.oth sb))) H.out.empt (by omega) (flat_one Net.ones _) (by have := H.out.nl; omega) (by decide) ?_) | (refine M.out.ev_appends 1 elem_Net rfl _ _ rfl rfl rfl rfl (H.out.sl _ (HOX.out.trans (M.out.oth sb))) H.out.empt (by omega) (flat_one Net.ones _) (by have := H.out.nl; omega) (by decide) ?_)); intro v94 w94 m; simp only [List.set_cons_succ, List.set_cons_zero, List.nil_append, Nat.zero_add] at m; have M := Lib.hid m; clear m) | ((with_reducible refine gate_dst (N := 105) rfl ?_); go_must (refine M.out.ev_bs1 elem_Net rfl _ rfl x.vals.toArray rfl rfl (by decide) ?_); intro g105 w105 m; simp only [List.cons_append, List.nil_append] at m; have M := Lib.hid m; clear m) | ((with_reducible refine gate_dst (N := 106) rfl ?_); go_must (first | (refine M.out.ev_append1 0 1 elem_Net rfl _ _ rfl rfl rfl rfl rfl rfl (Net.one x) (by have := H.out.nl; omega) (by decide) ?_; intro v106 w106 m; simp only [List.set_cons_succ, List.set_cons_zero] at m; obtain ⟨B106, c106, rfl, hc106, _⟩ := m.row_slice 0 rfl; have HIN := Lib.hid (H.out.next hg HZ.out HM.out (s' := s') (bv' := bv') (v := v91) (HOX.out.trans (m.oth sb)) (by rw [← HAL.out]; exact m.arg HX91.out) (HBest.out.oth (HO91.out.trans (m.oth sb))) (by omega) (m.row 0 rfl) HLT.out hc106 (m.row_none 0 rfl))) | (refine M.out.ev_append1 1 0 elem_Net rfl _ _ rfl rfl rfl rfl rfl rfl (Net.one x) (by have := H.out.nl; omega) (by decide) ?_; intro v106 w106 m; simp only [List.set_cons_succ, List.set_cons_zero] at m; obtain ⟨B106, c106, rfl, hc106, _⟩ := m.row_slice 1 rfl; have HIN := Lib.hid (H.out.next hg HZ.out HM.out (s' := s') (bv' := bv') (v := v91) (HOX.out.trans (m.oth sb)) (by rw [← HAL.out]; exact m.arg HX91.out) (HBest.out.oth (HO91.out.trans (m.oth sb))) (by omega) (m.row 1 rfl) HLT.out hc106 (m.row_none 1 rfl)))); rw [← HA.out] at HIN; have M := Lib.hid m; clear m))
                      refine onward_normal (hK _ _ ⟨(by exact M.out.take 0), ?_⟩)
                      clear hK K
                      try simp only [Act.put, List.getElem_toArray, List.getElem_cons_succ, List.getElem_cons_zero, List.setIfInBounds_toArray, List.set_cons_succ, List.set_cons_zero]
                      refine any1H 13 (by kernel_rfl) rfl (fun K hK => ?_)
                      go_wp2_with (first | ((with_reducible refine gate_dst (N := 92) rfl ?_); go_must (refine M.out.ev_bs0 elem_Net rfl rfl ?_); intro gv92 wv92 m; simp only [List.cons_append, List.nil_append] at m; have M := Lib.hid m; clear m) | ((with_reducible refine gate_dst (N := 94) rfl ?_); go_must (first | (refine M.out.ev_appends 0 elem_Net rfl _ _ rfl rfl rfl rfl (H.out.sl _ (HOX.out.trans (M.out.oth sb))) H.out.empt (by omega) (flat_one Net.ones _) (by have := H.out.nl; omega) (by decide) ?_) | (refine M.out.ev_appends 1 elem_Net rfl _ _ rfl rfl rfl rfl (H.out.sl _ (HOX.out.trans (M.out.oth sb))) H.out.empt (by omega) (flat_one Net.ones _) (by have := H.out.nl; omega) (by decide) ?_)); intro v94 w94 m; simp only [List.set_cons_succ, List.set_cons_zero, List.nil_append, Nat.zero_add] at m; have M := Lib.hid m; clear m) | ((with_reducible refine gate_dst (N := 105) rfl ?_); go_must (refine M.out.ev_bs1 elem_Net rfl _ rfl x.vals.toArray rfl rfl (by decide) ?_); intro g105 w105 m; simp only [List.cons_append, List.nil_append] at m; have M := Lib.hid m; clear m) | ((with_reducible refine gate_dst (N := 106) rfl ?_); go_must (first | (refine M.out.ev_append1 0 1 elem_Net rfl _ _ rfl rfl rfl rfl rfl rfl (Net.one x) (by have := H.out.nl; omega) (by decide) ?_; intro v106 w106 m; simp only [List.set_cons_succ, List.set_cons_zero] at m; obtain ⟨B106, c106, rfl, hc106, _⟩ := m.row_slice 0 rfl; have HIN := Lib.hid (H.out.next hg HZ.out HM.out (s' := s') (bv' := bv') (v := v91) (HOX.out.trans (m.oth sb)) (by rw [← HAL.out]; exact m.arg HX91.out) (HBest.out.oth (HO91.out.trans (m.oth sb))) (by omega) (m.row 0 rfl) HLT.out hc106 (m.row_none 0 rfl))) | (refine M.out.ev_append1 1 0 elem_Net rfl _ _ rfl rfl rfl rfl rfl rfl (Net.one x) (by have := H.out.nl; omega) (by decide) ?_; intro v106 w106 m; simp only [List.set_cons_succ, List.set_cons_zero] at m; obtain ⟨B106, c106, rfl, hc106, _⟩ := m.row_slice 1 rfl; have HIN := Lib.hid (H.out.next hg HZ.out HM.out (s' := s') (bv' := bv') (v := v91) (HOX.out.trans (m.oth sb)) (by rw [← HAL.out]; exact m.arg HX91.out) (HBest.out.oth (HO91.out.trans (m.oth sb))) (by omega) (m.row 1 rfl) HLT.out hc106 (m.row_none 1 rfl)))); rw [← HA.out] at HIN; have M := Lib.hid m; clear m))
                      refine onward_normal (hK _ _ ⟨(by exact M.out.take 0), ?_⟩)
                      clear hK K
                      try simp only [Act.put, List.getElem_toArray, List.getElem_cons_succ, List.getElem_cons_zero, List.setIfInBounds_toArray, List.set_cons_succ, List.set_cons_zero]
                      refine any1H 14 (by kernel_rfl) rfl (fun K hK => ?_)
                      go_wp2_with (first | ((with_reducible refine gate_dst (N := 92) rfl ?_); go_must (refine M.out.ev_bs0 elem_Net rfl rfl ?_); intro gv92 wv92 m; simp only [List.cons_append, List.nil_append] at m; have M := Lib.hid m; clear m) | ((with_reducible refine gate_dst (N := 94) rfl ?_); go_must (first | (refine M.out.ev_appends 0 elem_Net rfl _ _ rfl rfl rfl rfl (H.out.sl _ (HOX.out.trans (M.out.oth sb))) H.out.empt (by omega) (flat_one Net.ones _) (by have := H.out.nl; omega) (by decide) ?_) | (refine M.out.ev_appends 1 elem_Net rfl _ _ rfl rfl rfl rfl (H.out.sl _ (HOX.out.trans (M.out.oth sb))) H.out.empt (by omega) (flat_one Net.ones _) (by have := H.out.nl; omega) (by decide) ?_)); intro v94 w94 m; simp only [List.set_cons_succ, List.set_cons_zero, List.nil_append, Nat.zero_add] at m; have M := Lib.hid m; clear m) | ((with_reducible refine gate_dst (N := 105) rfl ?_); go_must (refine M.out.ev_bs1 elem_Net rfl _ rfl x.vals.toArray rfl rfl (by decide) ?_); intro g105 w105 m; simp only [List.cons_append, List.nil_append] at m; have M := Lib.hid m; clear m) | ((with_reducible refine gate_dst (N := 106) rfl ?_); go_must (first | (refine M.out.ev_append1 0 1 elem_Net rfl _ _ rfl rfl rfl rfl rfl rfl (Net.one x) (by have := H.out.nl; omega) (by decide) ?_; intro v106 w106 m; simp only [List.set_cons_succ, List.set_cons_zero] at m; obtain ⟨B106, c106, rfl, hc106, _⟩ := m.row_slice 0 rfl; have HIN := Lib.hid (H.out.next hg HZ.out HM.out (s' := s') (bv' := bv') (v := v91) (HOX.out.trans (m.oth sb)) (by rw [← HAL.out]; exact m.arg HX91.out) (HBest.out.oth (HO91.out.trans (m.oth sb))) (by omega) (m.row 0 rfl) HLT.out hc106 (m.row_none 0 rfl))) | (refine M.out.ev_append1 1 0 elem_Net rfl _ _ rfl rfl rfl rfl rfl rfl (Net.one x) (by have := H.out.nl; omega) (by decide) ?_; intro v106 w106 m; simp only [List.set_cons_succ, List.set_cons_zero] at m; obtain ⟨B106, c106, rfl, hc106, _⟩ := m.row_slice 1 rfl; have HIN := Lib.hid (H.out.next hg HZ.out HM.out (s' := s') (bv' := bv') (v := v91) (HOX.out.trans (m.oth sb)) (by rw [← HAL.out]; exact m.arg HX91.out) (HBest.out.oth (HO91.out.trans (m.oth sb))) (by omega) (m.row 1 rfl) HLT.out hc106 (m.row_none 1 rfl)))); rw [← HA.out] at HIN; have M := Lib.hid m; clear m))
                      refine onward_normal (hK _ _ ⟨(by exact M.out.take 0), ?_⟩)
                      clear hK K
                      try simp only [Act.put, List.getElem_toArray, List.getElem_cons_succ, List.getElem_cons_zero, List.setIfInBounds_toArray, List.set_cons_succ, List.set_cons_zero]
                      apply takeH (i := 15) 12 rfl (by kernel_rfl) (by kernel_rfl) (by kernel_rfl) (fun _ _ _ h => h) rfl (by exact M.out.take 0)
                      case' hy =>
                        refine Or.inl ⟨by first | rfl | (go_simp; done), ?_⟩
                        intro w hS
                        clear hS
                        go_simp
                        try with_reducible rfl
                      try simp only [Act.put, List.getElem_toArray, List.getElem_cons_succ, List.getElem_cons_zero, List.setIfInBounds_toArray, List.set_cons_succ, List.set_cons_zero]
                      refine wpAnyH_done (by kernel_rfl) ?_ _
                  all_goals
                    obtain ⟨q, hq⟩ : ∃ q, q = seek F p B m (left.without (netSet x)) (ns ++ [x]) (c + a) ⟨s'.tries + 1, s'.least, s'.best⟩ := ⟨_, rfl⟩
                    have HSQ := HSK.out q hq.symm
                    rw [hsk] at HSQ
                    have HSQ := Lib.hid HSQ
                    have ht4 := HT3.out
                    rw [← hq] at ht4
                    have HT4 := Lib.hid ht4
                    have ihq := IH.out _ _ _ _ _ _ _ _ _ HIN.out
                    rw [← hq] at ihq
                    have IHQ := Lib.hid ihq
                    clear hq HSK HT3 IH HIN ihq ht4
                    go_wp2_with (first
                      | ((with_reducible refine gate_dst (N := 113) rfl ?_); go_must (refine ev_get _ _ rfl rfl ((M.out.arg HX91.out).cellv (i := 1) (v := .slice (some ⟨bk, ok, none⟩) T.all.length ck) rfl) Try.underlying78 rfl rfl ?_))
                      | ((with_reducible refine gate_dst (N := 116) rfl ?_); go_must (refine ev_get _ _ rfl rfl ((HSH.out _ (HOX.out.trans (M.out.oth sb))).2.1) Try.underlying83 rfl rfl ?_))
                      | ((with_reducible refine gate_dst (N := 119) rfl ?_); go_must (refine ev_get _ _ rfl rfl (X2.out _ (HOX.out.trans (M.out.oth sb))) Try.underlying75 rfl rfl ?_))
                      | (go_at_call 38; go_must (refine (IHQ.out).mono ?_); rintro e w_ ⟨bv2, rfl, ho2, hb2, hbest2⟩; have HOW := Lib.hid (HOX.out.trans ((M.out.oth sb).trans ho2)); have HB2 := Lib.hid hb2; have HBest2 := Lib.hid hbest2; clear ho2 hb2 hbest2)
                      )
                    all_goals
                      first
                        | (have hq0 : (!q.1) = false := by assumption
                           have hq1 : q.1 = true := by rwa [Bool.not_eq_false'] at hq0
                           have e9 := HSQ.out
                           rw [if_pos hq1] at e9
                           exact ⟨⟨i + 1, q.2, bv2, by omega, by go_num, HOW.out, HB2.out, HBest2.out, HT4.out, e9.symm⟩, by simp [intOf]; omega⟩)
                        | (go_ret
                           have hq0 : (!q.1) = true := by assumption
                           have hq1 : q.1 = false := by rwa [Bool.not_eq_true'] at hq0
                           have e9 := HSQ.out
                           rw [if_neg (by rw [hq1]; decide)] at e9
                           rw [e9]
                           exact ⟨bv2, (by show Ending.returned (.bool false) = _; rw [hq1]), HOW.out, HB2.out, HBest2.out⟩)
            · clear hSHr
              obtain rfl : i = L.length := by omega
              rw [List.drop_length, skIn] at hsk
              have i1 : ¬ ((L.length : Int) < (L.length : Int)) := by omega
              go_wp2_with (first
                | ((with_reducible refine gate_dst (N := 44) rfl ?_); go_must (refine ev_get _ _ rfl rfl ((M.out.arg HB.out).cellv (i := 0) (v := .slice (some ⟨bn, on, none⟩) T.all.length cn) (by first | rfl | assumption)) Try.underlying77 rfl rfl ?_))
                | ((with_reducible refine gate_dst (N := 47) rfl ?_); go_must (refine ev_get _ _ rfl rfl ((HSH.out _ (HO.out.trans (M.out.oth sb))).1) Try.underlying32 rfl rfl ?_))
                | ((with_reducible refine gate_dst (N := 56) rfl ?_); go_must (refine ev_get _ _ rfl rfl ((M.out.arg HB.out).cellv (i := 2) (v := .slice (some ⟨bc, oc, none⟩) T.all.length cc) (by first | rfl | assumption)) Try.underlying79 rfl rfl ?_))
                | ((with_reducible refine gate_dst (N := 59) rfl ?_); go_must (refine ev_get _ _ rfl rfl ((HSH.out _ (HO.out.trans (M.out.oth sb))).2.2.1) Try.underlying49 rfl rfl ?_))
                | ((with_reducible refine gate_dst (N := 62) rfl ?_); go_must (refine ev_get _ _ rfl rfl (X3.out _ (HO.out.trans (M.out.oth sb))) Try.underlying2 rfl rfl ?_))
                | ((with_reducible refine gate_dst (N := 67) rfl ?_); go_must (refine ev_get _ _ rfl rfl ((M.out.arg HB.out).cellv (i := 8) C8.out) Try.underlying4 rfl rfl ?_))
                | ((with_reducible refine gate_dst (N := 73) rfl ?_); refine gate_want rfl ?_; go_must (refine ev_get _ _ rfl rfl ((M.out.arg HB.out).cellv (i := 7) C7.out) Try.underlying2 rfl rfl ?_))
                )
              go_ret
              rw [← hsk]
              exact ⟨bv', rfl, HO.out.trans (M.out.oth sb), M.out.arg HB.out, HBest.out.oth (M.out.oth sb)⟩
theorem l04Go_any (F : Fld) (hv : F.valid = true) (p : Prices) (hg : p.good = true) (T : Cs) (hT : T.all.length ≤ 12) (sb B base : Nat) (vn vm vc : Value) (hB : B ≤ 20000) (hbs : base ≤ sb) : ∀ (m : Nat) (left : Cs) (ns : List Net) (n : Nat) (c : Int) (s : Sk) (bv : Value) (A : Option Addr) (cap : Nat) (w : World),
    GoIn F p T sb B base m vn vm vc left ns n c s bv A cap w → Calls Try.prog 38 #[.pointer (some ⟨sb, 0, none⟩), .slice A n cap, .int .u16 (covN T.all left : Nat), .int .i64 c] w (RetGo w base sb (2 ^ T.all.length - 1) B vn vm vc (seek F p B m left ns c s))
  | 0, _, _, _, _, _, _, _, _, _, h => absurd h.lt (Nat.not_lt_zero _)
  | m + 1, left, ns, n, c, s, bv, A, cap, w, h => l04Go_step F hv p hg T hT sb B base vn vm vc hB hbs m (l04Go_any F hv p hg T hT sb B base vn vm vc hB hbs m) left ns n c s bv A cap w h
end Go.Proofs.Ytjkclggdaafmaaa
