/- Texts of a proof, laid together: Proof. -/
import Derived.Test.YtjkclggdaafmaaaZD14
import Derived.Test.YtjkclggdaafmaaaZD13
import Derived.Test.YtjkclggdaafmaaaZD03
import Derived.Test.YtjkclggdaafmaaaZD02
namespace Go.Proofs.Ytjkclggdaafmaaa
set_option linter.unusedSimpArgs false
set_option linter.unusedVariables false
open Go.RowKit
attribute [local go_sem] cell?_mk frozen?_mk
--ONES exact Cs.one _ | exact Net.one _ | exact Prices.one _

theorem isLess_any (k : Nat) (w : World) :
    Calls Try.prog 88 #[.int .i64 k] w fun e w' => e = .returned (.bool false) ∧ Mem w w' [] := by
  have M := Lib.hid (Mem.start w)
  have h : ¬ ((k : Int) < 0) := by omega
  go_enter Try.func88, Try.ntmps88
  go_wp2
  go_ret
  exact ⟨rfl, M.out⟩
/-- Duties as they stand in memory. -/
structure Duties (ds : List Int) : Prop where
  b : ∀ i, 0 ≤ gi ds i ∧ gi ds i ≤ 100000000
theorem dTo_b (x : Net) (ks : List Nat) {ds : List Int} (h : Duties ds) : ∀ i, 0 ≤ dTo x ks ds i ∧ dTo x ks ds i ≤ 100000000 * (i : Int)
  | 0 => ⟨Int.le_refl 0, Int.le_refl 0⟩
  | i + 1 => by
    have ih := dTo_b x ks h i
    have := h.b i
    rw [dTo]
    split <;> omega
theorem duties_nat {ds : List Int} (h : Duties ds) : flat oneI ds = flat one64 (ds.map Int.toNat) := by
  have h0 : ∀ x ∈ ds, 0 ≤ x := fun x hx => by
    obtain ⟨i, hi, rfl⟩ := List.getElem_of_mem hx
    have := (h.b i).1
    unfold gi at this
    rw [List.getD_eq_getElem?_getD, List.getElem?_eq_getElem hi] at this
    exact this
  clear h
  induction ds with
  | nil => rfl
  | cons x r ih =>
    have h1 := ih fun y hy => h0 y (List.mem_cons_of_mem _ hy)
    have h2 := h0 x (List.mem_cons_self ..)
    unfold flat at h1 ⊢
    rw [List.map_cons, List.flatMap_cons, List.flatMap_cons, h1]
    simp only [oneI, one64, nat64]
    rw [Int.toNat_of_nonneg h2]
theorem duS_b {ds : List Int} (h : Duties ds) : ∀ i, 0 ≤ duS (gi ds) i ∧ duS (gi ds) i ≤ 100000000 * (i : Int)
  | 0 => ⟨Int.le_refl 0, Int.le_refl 0⟩
  | i + 1 => by
    have ih := duS_b h i
    have := h.b i
    rw [duS]
    omega
theorem pf_all {F : Fld} {p : Prices} {ks : List Nat} {ds : List Int} (h : ∀ t, t < ks.length → ∀ i (hi : i < (netsAt F (ks.getD t 0)).length), dTo (netsAt F (ks.getD t 0))[i] ks ds ds.length ≤ netCost p (netsAt F (ks.getD t 0))[i]) : pfB F p ks ds = true := by
  unfold pfB
  rw [List.all_eq_true]
  intro k hk
  rw [List.all_eq_true]
  intro n hn
  obtain ⟨t, ht, rfl⟩ := List.getElem_of_mem hk
  have e : ks.getD t 0 = ks[t] := by rw [List.getD_eq_getElem?_getD, List.getElem?_eq_getElem ht]; rfl
  obtain ⟨i, hi, rfl⟩ := List.getElem_of_mem hn
  have := h t ht
  rw [e] at this
  exact decide_eq_true (this i hi)
theorem pf_no {F : Fld} {p : Prices} {ks : List Nat} {ds : List Int} {t : Nat} (ht : t < ks.length) {n : Net} (hn : n ∈ netsAt F (ks.getD t 0)) (h : netCost p n < dTo n ks ds ds.length) : pfB F p ks ds = false := by
  rw [← Bool.not_eq_true]
  intro hh
  unfold pfB at hh
  rw [List.all_eq_true] at hh
  have h1 := hh _ (ks_mem ht)
  rw [List.all_eq_true] at h1
  have := of_decide_eq_true (h1 n hn)
  omega
set_option maxRecDepth 100000 in
set_option maxHeartbeats 8000000 in
theorem isProof_any (g : Nat) {ty : TypeId} (F : Fld) (hF : F.ok) (hv : F.valid = true) (p : Prices) (hg : p.good = true) (c : Cs) (hc : c.ok) (h12 : c.all.length ≤ 12) (A : Aim F c.all) (B : Option Addr) (nb : Nat) (ds : List Int) (hd : Duties ds) (hl1 : ds.length ≤ c.all.length) (hl2 : c.all.length ≤ ds.length) (w : World) (hb : Blk w g ty F.cells) (hs : Sl w 1 B ds.length (flat oneI ds)) :
    Calls Try.prog 58 #[.pointer (some ⟨g, 0, none⟩), .agg p.vals.toArray, .agg c.cells, .slice B ds.length nb] w fun e w' => e = .returned (.bool (pfB F p c.all ds)) ∧ Mem w w' [] := by
  have M := Lib.hid (Mem.start w)
  have HF := Lib.hid hF
  have HS := Lib.hid hs
  have HB := Lib.hid hb
  have HD := Lib.hid hd
  have HV := Lib.hid hv
  have HG := Lib.hid hg
  have HA := Lib.hid A
  have HT := Lib.hid (show Sl w 1 B (ds.map Int.toNat).length (flat one64 (ds.map Int.toNat)) by rw [List.length_map, ← duties_nat hd]; exact hs)
  have e0 : ((ds.length : Int) != (c.all.length : Int)) = false := by simp; omega
  have HN0 := Lib.hid (show ((ds.map Int.toNat).any fun _ => false) = false by simp)
  have CF := Lib.hid (fun (w1 : World) hs1 => contains64_any 88 #[] (fun _ => false) B nb (ds.map Int.toNat) (by rw [List.length_map]; omega) w1 hs1 (fun _ _ => by go_simp) (fun k hk w1 m1 => calls_caps (isLess_any k w1)))
  rw [List.length_map, HN0.out] at CF
  rw [List.length_map] at HT
  clear hF hs hb hd hv hg HN0
  go_enter Try.func58, Try.ntmps58
  go_wp2_with (first
    | ((with_reducible refine gate_dst (N := 5) rfl ?_); go_must (refine M.out.ev_new rfl (by first | (go_simp; done) | (go_simp; rfl)) ?_); intro g5 w5 m; simp only [List.cons_append, List.nil_append] at m; have M := Lib.hid m; clear m)
    | ((with_reducible refine gate_dst (N := 6) rfl ?_); go_must (refine M.out.ev_new rfl (by first | (go_simp; done) | (go_simp; rfl)) ?_); intro g6 w6 m; simp only [List.cons_append, List.nil_append] at m; have M := Lib.hid m; clear m)
    | ((with_reducible refine gate_dst (N := 18) rfl ?_); go_must (refine M.out.ev_ldw 1 _ _ rfl rfl rfl Try.underlying39 rfl (by first | exact sz39 | (rw [S1.out]; exact sz39) | (rw [S2.out]; exact sz39) | (rw [S3.out]; exact sz39)) rfl ?_))
    | ((with_reducible refine gate_dst (N := 13) rfl ?_); go_must (refine M.out.ev_new rfl (by first | (go_simp; done) | (go_simp; rfl)) ?_); intro g13 w13 m; simp only [List.cons_append, List.nil_append] at m; have M := Lib.hid m; clear m)
    | ((with_reducible refine gate_store (x := .tmp 13) rfl ?_); go_must (refine M.out.ev_stw 4 _ _ _ rfl rfl rfl rfl _ rfl (by first | rfl | (simp only [S1.out]; rfl) | (simp only [S1.out, S2.out]; rfl) | (simp only [S3.out]; rfl) | (simp only [S1.out, S2.out, S3.out]; rfl)) (by first | exact sz65 | (rw [S1.out]; exact sz65) | (rw [S2.out]; exact sz65) | (rw [S3.out]; exact sz65)) (by first | exact ints_one _ _ | exact Fld.one _ | exact O1.out | exact Cs.one _ | exact Net.one _ | exact Prices.one _ | rfl | (simp [Value.oneCell']; done)) rfl ?_); intro wn m; simp only [List.set_cons_succ, List.set_cons_zero, List.setIfInBounds_toArray] at m; have M := Lib.hid m; clear m)
    | ((with_reducible refine gate_dst (N := 43) rfl ?_); go_must (refine M.out.ev_ldw 0 _ _ rfl rfl rfl Try.underlying37 rfl (by first | exact sz37 | (rw [S1.out]; exact sz37) | (rw [S2.out]; exact sz37) | (rw [S3.out]; exact sz37)) rfl ?_))
    | ((with_reducible refine gate_dst (N := 44) rfl ?_); go_must (refine M.out.ev_ldw 4 _ _ rfl rfl rfl Try.underlying65 rfl (by first | exact sz65 | (rw [S1.out]; exact sz65) | (rw [S2.out]; exact sz65) | (rw [S3.out]; exact sz65)) rfl ?_))
    | ((with_reducible refine gate_dst (N := 47) rfl ?_); go_must (refine M.out.ev_ldw 4 _ _ rfl rfl rfl Try.underlying65 rfl (by first | exact sz65 | (rw [S1.out]; exact sz65) | (rw [S2.out]; exact sz65) | (rw [S3.out]; exact sz65)) rfl ?_))
    | ((with_reducible refine gate_dst (N := 15) rfl ?_); go_must (refine M.out.ev_new rfl (by first | (go_simp; done) | (go_simp; rfl)) ?_); intro g15 w15 m; simp only [List.cons_append, List.nil_append] at m; have M := Lib.hid m; clear m)
    | ((with_reducible refine gate_store (x := .tmp 15) rfl ?_); go_must (refine M.out.ev_stw 6 _ _ _ rfl rfl rfl rfl _ rfl (by first | rfl | (simp only [S1.out]; rfl) | (simp only [S1.out, S2.out]; rfl) | (simp only [S3.out]; rfl) | (simp only [S1.out, S2.out, S3.out]; rfl)) (by first | exact sz39 | (rw [S1.out]; exact sz39) | (rw [S2.out]; exact sz39) | (rw [S3.out]; exact sz39)) (by first | exact ints_one _ _ | exact Fld.one _ | exact O1.out | exact Cs.one _ | exact Net.one _ | exact Prices.one _ | rfl | (simp [Value.oneCell']; done)) rfl ?_); intro wn m; simp only [List.set_cons_succ, List.set_cons_zero, List.setIfInBounds_toArray] at m; have M := Lib.hid m; clear m)
    | ((with_reducible refine gate_dst (N := 56) rfl ?_); go_must (refine M.out.ev_ldw 6 _ _ rfl rfl rfl Try.underlying39 rfl (by first | exact sz39 | (rw [S1.out]; exact sz39) | (rw [S2.out]; exact sz39) | (rw [S3.out]; exact sz39)) rfl ?_))
    | (go_at_call 87; go_must (refine (CF.out _ (M.out.sl HT.out)).mono ?_); rintro e w_ ⟨rfl, N_⟩; have m := M.out.join N_; clear N_; simp only [List.cons_append, List.nil_append, List.append_nil] at m; have M := Lib.hid m; clear m)
    | (go_at_call 44; go_must (refine (ListOf_any c hc _).mono ?_); rintro e w_ ⟨A_, c_, rfl, hc_, N_⟩; have m := M.out.join N_; clear N_; simp only [List.cons_append, List.nil_append, List.append_nil] at m; have M := Lib.hid m; clear m)
    )
  go_loopw [31] (fun v wr => ∃ t : Nat, t ≤ c.all.length ∧ v = .int .i64 t ∧ (∀ j, j < t → ∀ i (hi : i < (netsAt F (c.all.getD j 0)).length), dTo (netsAt F (c.all.getD j 0))[i] c.all ds ds.length ≤ netCost p (netsAt F (c.all.getD j 0))[i]) ∧ Mem w wr [.blk g5 37 p.vals.toArray, .blk g6 39 c.cells, .row (.slice A_ c.all.length c_) 2 1 c.all.length (flat one64 c.all)])
    (fun v _ => c.all.length - (intOf v).toNat)
  case atStart => exact ⟨0, by omega, rfl, fun j hj => absurd hj (Nat.not_lt_zero _), M.out⟩
  case round =>
    clear M e0
    obtain ⟨t, ht, rfl, hdone, m⟩ := hrel
    have M := Lib.hid m
    have HDN := Lib.hid hdone
    clear m hdone
    by_cases hlt : t < c.all.length
    · have i0 : (0 : Int) ≤ (t : Int) := by omega
      have i1 : (t : Int) < (c.all.length : Int) := by omega
      obtain ⟨hat, hmem, hj2⟩ := all_getD hlt
      have hk2 := HA.out.has _ hmem
      have HK2 := Lib.hid hk2
      have hnl := netsAt_len HV.out hj2
      have HSN := Lib.hid (show ∀ n ∈ netsAt F (c.all.getD t 0), n.snug from fun n hn => Net.snug_of HV.out (netsAt_fits hn))
      have HNO := Lib.hid (fun n (hn : n ∈ netsAt F (c.all.getD t 0)) h => pf_no (F := F) (p := p) (ds := ds) hlt hn h)
      have HDN3 := Lib.hid (show ∀ l : List Net, l = netsAt F (c.all.getD t 0) → (∀ i (hi : i < l.length), dTo l[i] c.all ds ds.length ≤ netCost p l[i]) → ∀ j, j < t + 1 → ∀ i (hi : i < (netsAt F (c.all.getD j 0)).length), dTo (netsAt F (c.all.getD j 0))[i] c.all ds ds.length ≤ netCost p (netsAt F (c.all.getD j 0))[i] from fun l hl h j hj => by
        rcases Nat.lt_or_ge j t with h1 | h1
        · exact HDN.out j h1
        · obtain rfl : j = t := by omega
          rw [hl] at h
          exact h)
      have ALLN := Lib.hid (fun (w : World) hb => allNets_any g (t := ty) F HF.out HV.out (c.all.getD t 0) hj2 HK2.out w hb)
      obtain ⟨ns, hns⟩ : ∃ ns, ns = netsAt F (c.all.getD t 0) := ⟨_, rfl⟩
      obtain ⟨k, hkk⟩ : ∃ k, k = c.all.getD t 0 := ⟨_, rfl⟩
      have HDN2 := Lib.hid (HDN3.out ns hns)
      clear HDN3
      rw [← hns] at HSN hnl HNO
      rw [← hns, ← hkk] at ALLN
      rw [← hkk] at hat hj2
      have HAT := Lib.hid hat
      clear hns hkk hmem hk2 hat HDN
      obtain ⟨lb, loff, rfl, _⟩ := (M.out.slof 2 rfl).2 (by omega)
      have x0 := (M.out.slof 2 rfl).at64 HAT.out
      go_wp2_with (first
        | ((with_reducible refine gate_dst (N := 5) rfl ?_); go_must (refine M.out.ev_new rfl (by first | (go_simp; done) | (go_simp; rfl)) ?_); intro g5 w5 m; simp only [List.cons_append, List.nil_append] at m; have M := Lib.hid m; clear m)
        | ((with_reducible refine gate_dst (N := 6) rfl ?_); go_must (refine M.out.ev_new rfl (by first | (go_simp; done) | (go_simp; rfl)) ?_); intro g6 w6 m; simp only [List.cons_append, List.nil_append] at m; have M := Lib.hid m; clear m)
        | ((with_reducible refine gate_dst (N := 18) rfl ?_); go_must (refine M.out.ev_ldw 1 _ _ rfl rfl rfl Try.underlying39 rfl (by first | exact sz39 | (rw [S1.out]; exact sz39) | (rw [S2.out]; exact sz39) | (rw [S3.out]; exact sz39)) rfl ?_))
        | ((with_reducible refine gate_dst (N := 13) rfl ?_); go_must (refine M.out.ev_new rfl (by first | (go_simp; done) | (go_simp; rfl)) ?_); intro g13 w13 m; simp only [List.cons_append, List.nil_append] at m; have M := Lib.hid m; clear m)
        | ((with_reducible refine gate_store (x := .tmp 13) rfl ?_); go_must (refine M.out.ev_stw 4 _ _ _ rfl rfl rfl rfl _ rfl (by first | rfl | (simp only [S1.out]; rfl) | (simp only [S1.out, S2.out]; rfl) | (simp only [S3.out]; rfl) | (simp only [S1.out, S2.out, S3.out]; rfl)) (by first | exact sz65 | (rw [S1.out]; exact sz65) | (rw [S2.out]; exact sz65) | (rw [S3.out]; exact sz65)) (by first | exact ints_one _ _ | exact Fld.one _ | exact O1.out | exact Cs.one _ | exact Net.one _ | exact Prices.one _ | rfl | (simp [Value.oneCell']; done)) rfl ?_); intro wn m; simp only [List.set_cons_succ, List.set_cons_zero, List.setIfInBounds_toArray] at m; have M := Lib.hid m; clear m)
        | ((with_reducible refine gate_dst (N := 43) rfl ?_); go_must (refine M.out.ev_ldw 0 _ _ rfl rfl rfl Try.underlying37 rfl (by first | exact sz37 | (rw [S1.out]; exact sz37) | (rw [S2.out]; exact sz37) | (rw [S3.out]; exact sz37)) rfl ?_))
        | ((with_reducible refine gate_dst (N := 44) rfl ?_); go_must (refine M.out.ev_ldw 4 _ _ rfl rfl rfl Try.underlying65 rfl (by first | exact sz65 | (rw [S1.out]; exact sz65) | (rw [S2.out]; exact sz65) | (rw [S3.out]; exact sz65)) rfl ?_))
        | ((with_reducible refine gate_dst (N := 47) rfl ?_); go_must (refine M.out.ev_ldw 4 _ _ rfl rfl rfl Try.underlying65 rfl (by first | exact sz65 | (rw [S1.out]; exact sz65) | (rw [S2.out]; exact sz65) | (rw [S3.out]; exact sz65)) rfl ?_))
        | ((with_reducible refine gate_dst (N := 15) rfl ?_); go_must (refine M.out.ev_new rfl (by first | (go_simp; done) | (go_simp; rfl)) ?_); intro g15 w15 m; simp only [List.cons_append, List.nil_append] at m; have M := Lib.hid m; clear m)
        | ((with_reducible refine gate_store (x := .tmp 15) rfl ?_); go_must (refine M.out.ev_stw 6 _ _ _ rfl rfl rfl rfl _ rfl (by first | rfl | (simp only [S1.out]; rfl) | (simp only [S1.out, S2.out]; rfl) | (simp only [S3.out]; rfl) | (simp only [S1.out, S2.out, S3.out]; rfl)) (by first | exact sz39 | (rw [S1.out]; exact sz39) | (rw [S2.out]; exact sz39) | (rw [S3.out]; exact sz39)) (by first | exact ints_one _ _ | exact Fld.one _ | exact O1.out | exact Cs.one _ | exact Net.one _ | exact Prices.one _ | rfl | (simp [Value.oneCell']; done)) rfl ?_); intro wn m; simp only [List.set_cons_succ, List.set_cons_zero, List.setIfInBounds_toArray] at m; have M := Lib.hid m; clear m)
        | ((with_reducible refine gate_dst (N := 56) rfl ?_); go_must (refine M.out.ev_ldw 6 _ _ rfl rfl rfl Try.underlying39 rfl (by first | exact sz39 | (rw [S1.out]; exact sz39) | (rw [S2.out]; exact sz39) | (rw [S3.out]; exact sz39)) rfl ?_))
        | (go_at_call 45; go_must (refine (ALLN.out _ (M.out.arg HB.out)).mono ?_); rintro e w_ ⟨A2, c2, rfl, hc2, N_⟩; have m := M.out.join N_; clear N_; simp only [List.cons_append, List.nil_append, List.append_nil] at m; have M := Lib.hid m; clear m)
        )
      go_loopw [39] (fun x wr => ∃ i : Nat, i ≤ ns.length ∧ x = .int .i64 i ∧ (∀ j (hj : j < ns.length), j < i → dTo ns[j] c.all ds ds.length ≤ netCost p ns[j]) ∧ Mem w wr [.blk g5 37 p.vals.toArray, .blk g6 39 c.cells, .row (.slice (some ⟨lb, loff, none⟩) c.all.length c_) 2 1 c.all.length (flat one64 c.all), .row (.slice A2 ns.length c2) 65 4 ns.length (flat Net.vals ns)])
        (fun x _ => ns.length - (intOf x).toNat)
      case atStart => exact ⟨0, by omega, rfl, fun j _ hj => absurd hj (Nat.not_lt_zero _), M.out⟩
      case round =>
        clear M x0
        obtain ⟨i, hi, rfl, hdo, m⟩ := hrel
        have M := Lib.hid m
        have HDO := Lib.hid hdo
        clear m hdo
        by_cases hit : i < ns.length
        · obtain ⟨nb_, noff, rfl, _⟩ := (M.out.slof 3 rfl).2 (by omega)
          have HXK := Lib.hid (show ns[i]? = some ns[i] from List.getElem?_eq_getElem hit)
          obtain ⟨hpl, hx10, hy10⟩ := HSN.out ns[i] (List.getElem_mem hit)
          have hca := (costOk HG.out hpl).k
          have HMX := Lib.hid (HNO.out ns[i] (List.getElem_mem hit))
          have HNX := Lib.hid (show dTo ns[i] c.all ds ds.length ≤ netCost p ns[i] → ∀ j (hj : j < ns.length), j < i + 1 → dTo ns[j] c.all ds ds.length ≤ netCost p ns[j] from fun h j hj h2 => by
            rcases Nat.lt_or_ge j i with h1 | h1
            · exact HDO.out j hj h1
            · obtain rfl : j = i := by omega
              exact h)
          have q0 : (0 : Int) ≤ (i : Int) := by omega
          have q1 : (i : Int) < (ns.length : Int) := by omega
          obtain ⟨x, hx⟩ : ∃ x, x = ns[i] := ⟨_, rfl⟩
          rw [← hx] at HXK hpl hx10 hy10 hca HMX HNX
          have VN := Lib.hid (Net.one x)
          have CO := Lib.hid (show (netSet x).ok from pset_ok _)
          have hdb := dTo_b x c.all HD.out ds.length
          obtain ⟨a, ha⟩ : ∃ a, a = netCost p x := ⟨_, rfl⟩
          have CA := Lib.hid ha.symm
          rw [← ha] at hca HMX HNX
          clear hx ha HDO
          go_wp2_with (first
            | ((with_reducible refine gate_dst (N := 5) rfl ?_); go_must (refine M.out.ev_new rfl (by first | (go_simp; done) | (go_simp; rfl)) ?_); intro g5 w5 m; simp only [List.cons_append, List.nil_append] at m; have M := Lib.hid m; clear m)
            | ((with_reducible refine gate_dst (N := 6) rfl ?_); go_must (refine M.out.ev_new rfl (by first | (go_simp; done) | (go_simp; rfl)) ?_); intro g6 w6 m; simp only [List.cons_append, List.nil_append] at m; have M := Lib.hid m; clear m)
            | ((with_reducible refine gate_dst (N := 18) rfl ?_); go_must (refine M.out.ev_ldw 1 _ _ rfl rfl rfl Try.underlying39 rfl (by first | exact sz39 | (rw [S1.out]; exact sz39) | (rw [S2.out]; exact sz39) | (rw [S3.out]; exact sz39)) rfl ?_))
            | ((with_reducible refine gate_dst (N := 13) rfl ?_); go_must (refine M.out.ev_new rfl (by first | (go_simp; done) | (go_simp; rfl)) ?_); intro g13 w13 m; simp only [List.cons_append, List.nil_append] at m; have M := Lib.hid m; clear m)
            | ((with_reducible refine gate_store (x := .tmp 13) rfl ?_); go_must (refine M.out.ev_stw 4 _ _ _ rfl rfl rfl rfl _ rfl (by first | rfl | (simp only [S1.out]; rfl) | (simp only [S1.out, S2.out]; rfl) | (simp only [S3.out]; rfl) | (simp only [S1.out, S2.out, S3.out]; rfl)) (by first | exact sz65 | (rw [S1.out]; exact sz65) | (rw [S2.out]; exact sz65) | (rw [S3.out]; exact sz65)) (by first | exact ints_one _ _ | exact Fld.one _ | exact O1.out | exact Cs.one _ | exact Net.one _ | exact Prices.one _ | rfl | (simp [Value.oneCell']; done)) rfl ?_); intro wn m; simp only [List.set_cons_succ, List.set_cons_zero, List.setIfInBounds_toArray] at m; have M := Lib.hid m; clear m)
            | ((with_reducible refine gate_dst (N := 43) rfl ?_); go_must (refine M.out.ev_ldw 0 _ _ rfl rfl rfl Try.underlying37 rfl (by first | exact sz37 | (rw [S1.out]; exact sz37) | (rw [S2.out]; exact sz37) | (rw [S3.out]; exact sz37)) rfl ?_))
            | ((with_reducible refine gate_dst (N := 44) rfl ?_); go_must (refine M.out.ev_ldw 4 _ _ rfl rfl rfl Try.underlying65 rfl (by first | exact sz65 | (rw [S1.out]; exact sz65) | (rw [S2.out]; exact sz65) | (rw [S3.out]; exact sz65)) rfl ?_))
            | ((with_reducible refine gate_dst (N := 47) rfl ?_); go_must (refine M.out.ev_ldw 4 _ _ rfl rfl rfl Try.underlying65 rfl (by first | exact sz65 | (rw [S1.out]; exact sz65) | (rw [S2.out]; exact sz65) | (rw [S3.out]; exact sz65)) rfl ?_))
            | ((with_reducible refine gate_dst (N := 15) rfl ?_); go_must (refine M.out.ev_new rfl (by first | (go_simp; done) | (go_simp; rfl)) ?_); intro g15 w15 m; simp only [List.cons_append, List.nil_append] at m; have M := Lib.hid m; clear m)
            | ((with_reducible refine gate_store (x := .tmp 15) rfl ?_); go_must (refine M.out.ev_stw 6 _ _ _ rfl rfl rfl rfl _ rfl (by first | rfl | (simp only [S1.out]; rfl) | (simp only [S1.out, S2.out]; rfl) | (simp only [S3.out]; rfl) | (simp only [S1.out, S2.out, S3.out]; rfl)) (by first | exact sz39 | (rw [S1.out]; exact sz39) | (rw [S2.out]; exact sz39) | (rw [S3.out]; exact sz39)) (by first | exact ints_one _ _ | exact Fld.one _ | exact O1.out | exact Cs.one _ | exact Net.one _ | exact Prices.one _ | rfl | (simp [Value.oneCell']; done)) rfl ?_); intro wn m; simp only [List.set_cons_succ, List.set_cons_zero, List.setIfInBounds_toArray] at m; have M := Lib.hid m; clear m)
            | ((with_reducible refine gate_dst (N := 56) rfl ?_); go_must (refine M.out.ev_ldw 6 _ _ rfl rfl rfl Try.underlying39 rfl (by first | exact sz39 | (rw [S1.out]; exact sz39) | (rw [S2.out]; exact sz39) | (rw [S3.out]; exact sz39)) rfl ?_))
            | ((with_reducible refine gate_dst (N := 42) rfl ?_); go_must (refine ev_ldr _ _ rfl rfl (range_at Net.vl ((M.out.slof 3 rfl).range (by omega)) HXK.out) Try.underlying65 rfl (by first | exact sz65 | (rw [S1.out]; exact sz65)) rfl ?_))
            )
          refine region_anyH (fun w' => Mem w w' [.blk g5 37 p.vals.toArray, .blk g6 39 c.cells, .row (.slice (some ⟨lb, loff, none⟩) c.all.length c_) 2 1 c.all.length (flat one64 c.all), .row (.slice (some ⟨nb_, noff, none⟩) ns.length c2) 65 4 ns.length (flat Net.vals ns), .blk g13 65 x.vals.toArray]) (by kernel_rfl) ?_
          have M9 := M.out.drew
          clear M
          apply merge2
          case hA =>
            intro REST0
            apply merge2
            case hA =>
              intro REST1
              apply merge2
              case hA =>
                intro REST2
                apply merge2
                case hA =>
                  intro REST3
                  have M := Lib.hid M9
                  apply takeH (i := 0) 43 rfl (by kernel_rfl) (by kernel_rfl) (by kernel_rfl) (fun _ _ _ h => h) rfl (by first | exact M.out | exact M.out.take 5)
                  case' hy => exact yldw _ _ rfl rfl Try.underlying37 rfl (by first | exact sz37 | (rw [S1.out]; exact sz37) | (rw [S2.out]; exact sz37) | (rw [S3.out]; exact sz37)) rfl (fun w' hS => hS.blk 0 rfl)
                  try simp only [Act.put, List.getElem_toArray, List.getElem_cons_succ, List.getElem_cons_zero, List.setIfInBounds_toArray, List.set_cons_succ, List.set_cons_zero]
                  apply takeH (i := 1) 44 rfl (by kernel_rfl) (by kernel_rfl) (by kernel_rfl) (fun _ _ _ h => h) rfl (by first | exact M.out | exact M.out.take 5)
                  case' hy => exact yldw _ _ rfl rfl Try.underlying65 rfl (by first | exact sz65 | (rw [S1.out]; exact sz65) | (rw [S2.out]; exact sz65) | (rw [S3.out]; exact sz65)) rfl (fun w' hS => hS.blk 4 rfl)
                  try simp only [Act.put, List.getElem_toArray, List.getElem_cons_succ, List.getElem_cons_zero, List.setIfInBounds_toArray, List.set_cons_succ, List.set_cons_zero]
                  apply takeH (i := 4) 47 rfl (by kernel_rfl) (by kernel_rfl) (by kernel_rfl) (fun _ _ _ h => h) rfl (by first | exact M.out | exact M.out.take 5)
                  case' hy => exact yldw _ _ rfl rfl Try.underlying65 rfl (by first | exact sz65 | (rw [S1.out]; exact sz65) | (rw [S2.out]; exact sz65) | (rw [S3.out]; exact sz65)) rfl (fun w' hS => hS.blk 4 rfl)
                  try simp only [Act.put, List.getElem_toArray, List.getElem_cons_succ, List.getElem_cons_zero, List.setIfInBounds_toArray, List.set_cons_succ, List.set_cons_zero]
                  refine any2H 2 6 (by kernel_rfl) rfl rfl (fun K hK => ?_) (fun K hK => ?_)
                  rotate_right 1
                  case' _ =>
                    go_wp2_with (first | ((with_reducible refine gate_dst (N := 15) rfl ?_); go_must (refine M.out.ev_new rfl (by first | (go_simp; done) | (go_simp; rfl)) ?_); intro g15 w15 m; simp only [List.cons_append, List.nil_append] at m; have M := Lib.hid m; clear m))
                    refine onward_normal (hK _ _ ⟨(by first | exact M.out | exact M.out.take 5), ?_⟩)
                    clear hK K
                    try simp only [Act.put, List.getElem_toArray, List.getElem_cons_succ, List.getElem_cons_zero, List.setIfInBounds_toArray, List.set_cons_succ, List.set_cons_zero]
                    refine any1H 2 (by kernel_rfl) rfl (fun K hK => ?_)
                    go_wp2_with (first | ((with_reducible refine gate_dst (N := 45) rfl ?_); go_must (refine M.out.ev_bs1 elem_Net rfl _ rfl x.vals.toArray rfl rfl (by decide) ?_); intro g45 w45 m; simp only [List.cons_append, List.nil_append] at m; have M := Lib.hid m; clear m))
                    refine onward_normal (hK _ _ ⟨(by first | exact M.out | exact M.out.take 5), ?_⟩)
                    clear hK K
                    try simp only [Act.put, List.getElem_toArray, List.getElem_cons_succ, List.getElem_cons_zero, List.setIfInBounds_toArray, List.set_cons_succ, List.set_cons_zero]
                    have m := M.out.only [0, 1, 2, 3, 4, 6, 5] (K := [_, _, _, _, _, _, _]) rfl (by decide)
                    exact REST3 g45 g15 w45 m
                  rotate_right 1
                  case' _ =>
                    go_wp2_with (first | ((with_reducible refine gate_dst (N := 45) rfl ?_); go_must (refine M.out.ev_bs1 elem_Net rfl _ rfl x.vals.toArray rfl rfl (by decide) ?_); intro g45 w45 m; simp only [List.cons_append, List.nil_append] at m; have M := Lib.hid m; clear m))
                    refine onward_normal (hK _ _ ⟨(by first | exact M.out | exact M.out.take 5), ?_⟩)
                    clear hK K
                    try simp only [Act.put, List.getElem_toArray, List.getElem_cons_succ, List.getElem_cons_zero, List.setIfInBounds_toArray, List.set_cons_succ, List.set_cons_zero]
                    refine any2H 3 6 (by kernel_rfl) rfl rfl (fun K hK => ?_) (fun K hK => ?_)
                    rotate_right 1
                    case' _ =>
                      go_wp2_with (first | ((with_reducible refine gate_dst (N := 15) rfl ?_); go_must (refine M.out.ev_new rfl (by first | (go_simp; done) | (go_simp; rfl)) ?_); intro g15 w15 m; simp only [List.cons_append, List.nil_append] at m; have M := Lib.hid m; clear m))
                      refine onward_normal (hK _ _ ⟨(by first | exact M.out | exact M.out.take 5), ?_⟩)
                      clear hK K
                      try simp only [Act.put, List.getElem_toArray, List.getElem_cons_succ, List.getElem_cons_zero, List.setIfInBounds_toArray, List.set_cons_succ, List.set_cons_zero]
                      exact REST3 g45 g15 w15 M.out
                    rotate_right 1
                    case' _ =>
                      go_wp2_with (first | (go_at_call 47; go_must (first | (refine Calls.mono (calls_args (by with_reducible rfl) (cost1_any p HG.out g45 x hpl _ (M.out.blk 5 rfl))) ?_) | (refine Calls.mono (calls_args (by with_reducible rfl) (cost1_any p HG.out g45 x hpl _ (M.out.blk 6 rfl))) ?_)); rintro e w_ ⟨rfl, N_⟩; have m := M.out.join N_; clear N_; simp only [List.cons_append, List.nil_append, List.append_nil] at m; have M := Lib.hid m; clear m; rw [CA.out]))
                      refine onward_normal (hK _ _ ⟨(by first | exact M.out | exact M.out.take 5), ?_⟩)
                      clear hK K
                      try simp only [Act.put, List.getElem_toArray, List.getElem_cons_succ, List.getElem_cons_zero, List.setIfInBounds_toArray, List.set_cons_succ, List.set_cons_zero]
                      refine any2H 5 6 (by kernel_rfl) rfl rfl (fun K hK => ?_) (fun K hK => ?_)
                      rotate_right 1
                      case' _ =>
                        go_wp2_with (first | ((with_reducible refine gate_dst (N := 15) rfl ?_); go_must (refine M.out.ev_new rfl (by first | (go_simp; done) | (go_simp; rfl)) ?_); intro g15 w15 m; simp only [List.cons_append, List.nil_append] at m; have M := Lib.hid m; clear m))
                        refine onward_normal (hK _ _ ⟨(by first | exact M.out | exact M.out.take 5), ?_⟩)
                        clear hK K
                        try simp only [Act.put, List.getElem_toArray, List.getElem_cons_succ, List.getElem_cons_zero, List.setIfInBounds_toArray, List.set_cons_succ, List.set_cons_zero]
                        exact REST2 g45 g15 w15 M.out
                      rotate_right 1
                      case' _ =>
                        go_wp2_with (first | (go_at_call 46; go_must (refine (cellsN_any x hpl hx10 hy10 _).mono ?_); rintro e w_ ⟨rfl, N_⟩; have m := M.out.join N_; clear N_; simp only [List.cons_append, List.nil_append, List.append_nil] at m; have M := Lib.hid m; clear m))
                        refine onward_normal (hK _ _ ⟨(by first | exact M.out | exact M.out.take 5), ?_⟩)
                        clear hK K
                        try simp only [Act.put, List.getElem_toArray, List.getElem_cons_succ, List.getElem_cons_zero, List.setIfInBounds_toArray, List.set_cons_succ, List.set_cons_zero]
                        refine any1H 6 (by kernel_rfl) rfl (fun K hK => ?_)
                        go_wp2_with (first | ((with_reducible refine gate_dst (N := 15) rfl ?_); go_must (refine M.out.ev_new rfl (by first | (go_simp; done) | (go_simp; rfl)) ?_); intro g15 w15 m; simp only [List.cons_append, List.nil_append] at m; have M := Lib.hid m; clear m))
                        refine onward_normal (hK _ _ ⟨(by first | exact M.out | exact M.out.take 5), ?_⟩)
                        clear hK K
                        try simp only [Act.put, List.getElem_toArray, List.getElem_cons_succ, List.getElem_cons_zero, List.setIfInBounds_toArray, List.set_cons_succ, List.set_cons_zero]
                        apply takeH (i := 7) 14 rfl (by kernel_rfl) (by kernel_rfl) (by kernel_rfl) (fun _ _ _ h => h) rfl (by first | exact M.out | exact M.out.take 5)
                        case' hy =>
                          refine Or.inl ⟨by first | rfl | (go_simp; done), ?_⟩
                          intro w hS
                          clear hS
                          go_simp
                          try with_reducible rfl
                        try simp only [Act.put, List.getElem_toArray, List.getElem_cons_succ, List.getElem_cons_zero, List.setIfInBounds_toArray, List.set_cons_succ, List.set_cons_zero]
                        exact REST1 g45 g15 w15 M.out
                case hB =>
                  intro g45 g15 w_ m
                  have M := Lib.hid m
                  clear m
                  refine any1H 3 (by kernel_rfl) rfl (fun K hK => ?_)
                  go_wp2_with (first | (go_at_call 47; go_must (first | (refine Calls.mono (calls_args (by with_reducible rfl) (cost1_any p HG.out g45 x hpl _ (M.out.blk 5 rfl))) ?_) | (refine Calls.mono (calls_args (by with_reducible rfl) (cost1_any p HG.out g45 x hpl _ (M.out.blk 6 rfl))) ?_)); rintro e w_ ⟨rfl, N_⟩; have m := M.out.join N_; clear N_; simp only [List.cons_append, List.nil_append, List.append_nil] at m; have M := Lib.hid m; clear m; rw [CA.out]))
                  refine onward_normal (hK _ _ ⟨(by first | exact M.out | exact M.out.take 5), ?_⟩)
                  clear hK K
                  try simp only [Act.put, List.getElem_toArray, List.getElem_cons_succ, List.getElem_cons_zero, List.setIfInBounds_toArray, List.set_cons_succ, List.set_cons_zero]
                  exact REST2 g45 g15 w_ M.out
              case hB =>
                intro g45 g15 w_ m
                have M := Lib.hid m
                clear m
                refine any1H 5 (by kernel_rfl) rfl (fun K hK => ?_)
                go_wp2_with (first | (go_at_call 46; go_must (refine (cellsN_any x hpl hx10 hy10 _).mono ?_); rintro e w_ ⟨rfl, N_⟩; have m := M.out.join N_; clear N_; simp only [List.cons_append, List.nil_append, List.append_nil] at m; have M := Lib.hid m; clear m))
                refine onward_normal (hK _ _ ⟨(by first | exact M.out | exact M.out.take 5), ?_⟩)
                clear hK K
                try simp only [Act.put, List.getElem_toArray, List.getElem_cons_succ, List.getElem_cons_zero, List.setIfInBounds_toArray, List.set_cons_succ, List.set_cons_zero]
                apply takeH (i := 7) 14 rfl (by kernel_rfl) (by kernel_rfl) (by kernel_rfl) (fun _ _ _ h => h) rfl (by first | exact M.out | exact M.out.take 5)
                case' hy =>
                  refine Or.inl ⟨by first | rfl | (go_simp; done), ?_⟩
                  intro w hS
                  clear hS
                  go_simp
                  try with_reducible rfl
                try simp only [Act.put, List.getElem_toArray, List.getElem_cons_succ, List.getElem_cons_zero, List.setIfInBounds_toArray, List.set_cons_succ, List.set_cons_zero]
                exact REST1 g45 g15 w_ M.out
            case hB =>
              intro g45 g15 w_ m
              have M := Lib.hid m
              clear m
              refine any1H 8 (by kernel_rfl) rfl (fun K hK => ?_)
              go_wp2_with (first | ((with_reducible refine gate_store (x := .tmp 15) rfl ?_); go_must (first | (refine M.out.ev_stw 5 _ _ _ rfl rfl rfl rfl _ rfl (by first | rfl | (simp only [S1.out]; rfl) | (simp only [S1.out, S2.out]; rfl) | (simp only [S3.out]; rfl) | (simp only [S1.out, S2.out, S3.out]; rfl)) (by first | exact sz39 | (rw [S1.out]; exact sz39) | (rw [S2.out]; exact sz39) | (rw [S3.out]; exact sz39)) (by first | exact ints_one _ _ | exact Fld.one _ | exact O1.out | exact Cs.one _ | exact Net.one _ | exact Prices.one _ | rfl | (simp [Value.oneCell']; done)) rfl ?_) | (refine M.out.ev_stw 6 _ _ _ rfl rfl rfl rfl _ rfl (by first | rfl | (simp only [S1.out]; rfl) | (simp only [S1.out, S2.out]; rfl) | (simp only [S3.out]; rfl) | (simp only [S1.out, S2.out, S3.out]; rfl)) (by first | exact sz39 | (rw [S1.out]; exact sz39) | (rw [S2.out]; exact sz39) | (rw [S3.out]; exact sz39)) (by first | exact ints_one _ _ | exact Fld.one _ | exact O1.out | exact Cs.one _ | exact Net.one _ | exact Prices.one _ | rfl | (simp [Value.oneCell']; done)) rfl ?_)); intro wn m; simp only [List.set_cons_succ, List.set_cons_zero, List.setIfInBounds_toArray] at m; have M := Lib.hid m; clear m))
              refine onward_normal (hK _ _ ⟨(by first | exact M.out | exact M.out.take 5), ?_⟩)
              clear hK K
              try simp only [Act.put, List.getElem_toArray, List.getElem_cons_succ, List.getElem_cons_zero, List.setIfInBounds_toArray, List.set_cons_succ, List.set_cons_zero]
              exact REST0 g45 g15 wn M.out
          intro g45 g15 w_ m
          have M := Lib.hid m
          clear m M9
          refine wpAnyH_done (by kernel_rfl) ?_ _
          go_wp2
          go_loopw [14, 51] (fun u v wr => ∃ j : Nat, j ≤ ds.length ∧ v = .int .i64 j ∧ u = .int .i64 (a - dTo x c.all ds j) ∧ Mem w wr [.blk g5 37 p.vals.toArray, .blk g6 39 c.cells, .row (.slice (some ⟨lb, loff, none⟩) c.all.length c_) 2 1 c.all.length (flat one64 c.all), .row (.slice (some ⟨nb_, noff, none⟩) ns.length c2) 65 4 ns.length (flat Net.vals ns), .blk g13 65 x.vals.toArray, .blk g45 65 x.vals.toArray, .blk g15 39 (netSet x).cells])
            (fun _ v _ => ds.length - (intOf v).toNat)
          case atStart => exact ⟨0, by omega, rfl, by simp [dTo], M.out⟩
          case round =>
            clear M
            obtain ⟨j, hj, rfl, rfl, m⟩ := hrel
            have M := Lib.hid m
            clear m
            by_cases hjt : j < ds.length
            · obtain ⟨hjat, _, hj100⟩ := all_getD (c := c) (i := j) (by omega)
              have HJAT := Lib.hid hjat
              have HGI := Lib.hid (gi_at hjt)
              have hgb := HD.out.b j
              obtain ⟨ob, ooff, rfl, _⟩ := HS.out.2 (by omega)
              have x1 := (M.out.sl HS.out).atI HGI.out
              have x2 := (M.out.slof 2 rfl).at64 HJAT.out
              have HDS := Lib.hid (show dTo x c.all ds (j + 1) = dTo x c.all ds j + if x.inside (c.all.getD j 0) = true then gi ds j else 0 from rfl)
              have b1 := dTo_b x c.all HD.out j
              have b2 := dTo_b x c.all HD.out (j + 1)
              have j0 : (0 : Int) ≤ (j : Int) := by omega
              have j1 : (j : Int) < (ds.length : Int) := by omega
              have j2 : (j : Int) < (c.all.length : Int) := by omega
              have HHI := Lib.hid (show (netSet x).has (c.all.getD j 0) = x.inside (c.all.getD j 0) from pset_has _ hj100)
              obtain ⟨z, hz⟩ : ∃ z, z = c.all.getD j 0 := ⟨_, rfl⟩
              obtain ⟨y, hy⟩ : ∃ y, y = gi ds j := ⟨_, rfl⟩
              rw [← hz] at HJAT HDS HHI hj100 x2
              rw [← hy] at HGI HDS x1 hgb
              have hmin : min y 1000000000 = y := by omega
              clear hz hy hjat
              cases hq : x.inside z
              all_goals
                have HQ := Lib.hid hq
                rw [hq] at HHI
                have hdd := HDS.out
                rw [hq] at hdd
                first
                  | rw [if_neg (by decide)] at hdd
                  | rw [if_pos rfl] at hdd
                try have w1 : IntKind.i64.wrap (a - dTo x c.all ds j - y) = a - dTo x c.all ds j - y := IntWalk.i64_in _ (by omega)
                have HDD := Lib.hid hdd
                clear hdd hq
                go_wp2_with (first
                  | ((with_reducible refine gate_dst (N := 5) rfl ?_); go_must (refine M.out.ev_new rfl (by first | (go_simp; done) | (go_simp; rfl)) ?_); intro g5 w5 m; simp only [List.cons_append, List.nil_append] at m; have M := Lib.hid m; clear m)
                  | ((with_reducible refine gate_dst (N := 6) rfl ?_); go_must (refine M.out.ev_new rfl (by first | (go_simp; done) | (go_simp; rfl)) ?_); intro g6 w6 m; simp only [List.cons_append, List.nil_append] at m; have M := Lib.hid m; clear m)
                  | ((with_reducible refine gate_dst (N := 18) rfl ?_); go_must (refine M.out.ev_ldw 1 _ _ rfl rfl rfl Try.underlying39 rfl (by first | exact sz39 | (rw [S1.out]; exact sz39) | (rw [S2.out]; exact sz39) | (rw [S3.out]; exact sz39)) rfl ?_))
                  | ((with_reducible refine gate_dst (N := 13) rfl ?_); go_must (refine M.out.ev_new rfl (by first | (go_simp; done) | (go_simp; rfl)) ?_); intro g13 w13 m; simp only [List.cons_append, List.nil_append] at m; have M := Lib.hid m; clear m)
                  | ((with_reducible refine gate_store (x := .tmp 13) rfl ?_); go_must (refine M.out.ev_stw 4 _ _ _ rfl rfl rfl rfl _ rfl (by first | rfl | (simp only [S1.out]; rfl) | (simp only [S1.out, S2.out]; rfl) | (simp only [S3.out]; rfl) | (simp only [S1.out, S2.out, S3.out]; rfl)) (by first | exact sz65 | (rw [S1.out]; exact sz65) | (rw [S2.out]; exact sz65) | (rw [S3.out]; exact sz65)) (by first | exact ints_one _ _ | exact Fld.one _ | exact O1.out | exact Cs.one _ | exact Net.one _ | exact Prices.one _ | rfl | (simp [Value.oneCell']; done)) rfl ?_); intro wn m; simp only [List.set_cons_succ, List.set_cons_zero, List.setIfInBounds_toArray] at m; have M := Lib.hid m; clear m)
                  | ((with_reducible refine gate_dst (N := 43) rfl ?_); go_must (refine M.out.ev_ldw 0 _ _ rfl rfl rfl Try.underlying37 rfl (by first | exact sz37 | (rw [S1.out]; exact sz37) | (rw [S2.out]; exact sz37) | (rw [S3.out]; exact sz37)) rfl ?_))
                  | ((with_reducible refine gate_dst (N := 44) rfl ?_); go_must (refine M.out.ev_ldw 4 _ _ rfl rfl rfl Try.underlying65 rfl (by first | exact sz65 | (rw [S1.out]; exact sz65) | (rw [S2.out]; exact sz65) | (rw [S3.out]; exact sz65)) rfl ?_))
                  | ((with_reducible refine gate_dst (N := 47) rfl ?_); go_must (refine M.out.ev_ldw 4 _ _ rfl rfl rfl Try.underlying65 rfl (by first | exact sz65 | (rw [S1.out]; exact sz65) | (rw [S2.out]; exact sz65) | (rw [S3.out]; exact sz65)) rfl ?_))
                  | ((with_reducible refine gate_dst (N := 15) rfl ?_); go_must (refine M.out.ev_new rfl (by first | (go_simp; done) | (go_simp; rfl)) ?_); intro g15 w15 m; simp only [List.cons_append, List.nil_append] at m; have M := Lib.hid m; clear m)
                  | ((with_reducible refine gate_store (x := .tmp 15) rfl ?_); go_must (refine M.out.ev_stw 6 _ _ _ rfl rfl rfl rfl _ rfl (by first | rfl | (simp only [S1.out]; rfl) | (simp only [S1.out, S2.out]; rfl) | (simp only [S3.out]; rfl) | (simp only [S1.out, S2.out, S3.out]; rfl)) (by first | exact sz39 | (rw [S1.out]; exact sz39) | (rw [S2.out]; exact sz39) | (rw [S3.out]; exact sz39)) (by first | exact ints_one _ _ | exact Fld.one _ | exact O1.out | exact Cs.one _ | exact Net.one _ | exact Prices.one _ | rfl | (simp [Value.oneCell']; done)) rfl ?_); intro wn m; simp only [List.set_cons_succ, List.set_cons_zero, List.setIfInBounds_toArray] at m; have M := Lib.hid m; clear m)
                  | ((with_reducible refine gate_dst (N := 56) rfl ?_); go_must (refine M.out.ev_ldw 6 _ _ rfl rfl rfl Try.underlying39 rfl (by first | exact sz39 | (rw [S1.out]; exact sz39) | (rw [S2.out]; exact sz39) | (rw [S3.out]; exact sz39)) rfl ?_))
                  )
                refine region_anyH (fun w' => Mem w w' [.blk g5 37 p.vals.toArray, .blk g6 39 c.cells, .row (.slice (some ⟨lb, loff, none⟩) c.all.length c_) 2 1 c.all.length (flat one64 c.all), .row (.slice (some ⟨nb_, noff, none⟩) ns.length c2) 65 4 ns.length (flat Net.vals ns), .blk g13 65 x.vals.toArray, .blk g45 65 x.vals.toArray, .blk g15 39 (netSet x).cells]) (by kernel_rfl) ?_
                have m := M.out.drew
                clear M
                have M := Lib.hid m
                clear m
                apply takeH (i := 0) 56 rfl (by kernel_rfl) (by kernel_rfl) (by kernel_rfl) (fun _ _ _ h => h) rfl (by first | exact M.out | exact M.out.take 7)
                case' hy => exact yldw _ _ rfl rfl Try.underlying39 rfl (by first | exact sz39 | (rw [S1.out]; exact sz39) | (rw [S2.out]; exact sz39) | (rw [S3.out]; exact sz39)) rfl (fun w' hS => hS.blk 6 rfl)
                try simp only [Act.put, List.getElem_toArray, List.getElem_cons_succ, List.getElem_cons_zero, List.setIfInBounds_toArray, List.set_cons_succ, List.set_cons_zero]
                apply takeH (i := 1) 57 rfl (by kernel_rfl) (by kernel_rfl) (by kernel_rfl) (fun _ _ _ h => h) rfl (by first | exact M.out | exact M.out.take 7)
                case' hy =>
                  refine Or.inl ⟨by first | rfl | (go_simp; done), ?_⟩
                  intro w hS
                  clear hS
                  go_simp
                  try with_reducible rfl
                try simp only [Act.put, List.getElem_toArray, List.getElem_cons_succ, List.getElem_cons_zero, List.setIfInBounds_toArray, List.set_cons_succ, List.set_cons_zero]
                apply takeH (i := 2) 58 rfl (by kernel_rfl) (by kernel_rfl) (by kernel_rfl) (fun _ _ _ h => h) rfl (by first | exact M.out | exact M.out.take 7)
                case' hy =>
                  refine Or.inl ⟨by first | rfl | (go_simp; done), ?_⟩
                  intro w hS
                  clear hS
                  go_simp
                  try with_reducible rfl
                try simp only [Act.put, List.getElem_toArray, List.getElem_cons_succ, List.getElem_cons_zero, List.setIfInBounds_toArray, List.set_cons_succ, List.set_cons_zero]
                apply takeH (i := 3) 59 rfl (by kernel_rfl) (by kernel_rfl) (by kernel_rfl) (fun _ _ _ h => h) rfl (by first | exact M.out | exact M.out.take 7)
                case' hy =>
                  refine Or.inl ⟨by first | rfl | (go_simp; done), ?_⟩
                  intro w hS
                  clear hS
                  go_simp
                  try with_reducible rfl
                try simp only [Act.put, List.getElem_toArray, List.getElem_cons_succ, List.getElem_cons_zero, List.setIfInBounds_toArray, List.set_cons_succ, List.set_cons_zero]
                apply takeH (i := 4) 60 rfl (by kernel_rfl) (by kernel_rfl) (by kernel_rfl) (fun _ _ _ h => h) rfl (by first | exact M.out | exact M.out.take 7)
                case' hy => exact ylds _ _ rfl rfl Try.underlying2 rfl rfl (fun w' hS => (hS.slof 2 rfl).at64 HJAT.out)
                try simp only [Act.put, List.getElem_toArray, List.getElem_cons_succ, List.getElem_cons_zero, List.setIfInBounds_toArray, List.set_cons_succ, List.set_cons_zero]
                refine any1H 5 (by kernel_rfl) rfl (fun K hK => ?_)
                go_wp2_with (first | ((with_reducible refine gate_dst (N := 56) rfl ?_); go_must (refine M.out.ev_ldw 6 _ _ rfl rfl rfl Try.underlying39 rfl (by first | exact sz39 | (rw [S1.out]; exact sz39) | (rw [S2.out]; exact sz39) | (rw [S3.out]; exact sz39)) rfl ?_)) | (go_at_call 56; go_must (refine (HasCell_any _ CO.out z hj100 _).mono ?_); rintro e w_ ⟨rfl, N_⟩; have m := M.out.join N_; clear N_; simp only [List.cons_append, List.nil_append, List.append_nil] at m; have M := Lib.hid m; clear m; rw [HHI.out]))
                refine onward_normal (hK _ _ ⟨(by first | exact M.out | exact M.out.take 7), ?_⟩)
                clear hK K
                try simp only [Act.put, List.getElem_toArray, List.getElem_cons_succ, List.getElem_cons_zero, List.setIfInBounds_toArray, List.set_cons_succ, List.set_cons_zero]
                refine wpAnyH_done (by kernel_rfl) ?_ _
                all_goals
                  go_wp2
                  exact ⟨⟨j + 1, by omega, by go_num, by rw [HDD.out]; congr 1; omega, M.out⟩, by simp [intOf]; try omega⟩
            · obtain rfl : j = ds.length := by omega
              obtain ⟨r, hr⟩ : ∃ r, r = a - dTo x c.all ds ds.length := ⟨_, rfl⟩
              rw [← hr]
              by_cases hlo : r < 0
              · have HR := Lib.hid (HMX.out (by omega))
                clear hr
                go_wp2
                go_ret
                rw [HR.out]
                exact ⟨rfl, M.out.take 0⟩
              · have HR := Lib.hid (HNX.out (by omega))
                clear hr
                go_wp2
                exact ⟨⟨i + 1, by omega, by go_num, HR.out, M.out.take 4⟩, by simp [intOf]; try omega⟩
        · obtain rfl : i = ns.length := by omega
          have q1 : ¬ ((ns.length : Int) < (ns.length : Int)) := by omega
          have HR := Lib.hid (HDN2.out fun i hi => HDO.out i hi hi)
          clear HDN2
          go_wp2
          exact ⟨⟨t + 1, by omega, by go_num, HR.out, M.out.take 3⟩, by simp [intOf]; try omega⟩
    · obtain rfl : t = c.all.length := by omega
      have i1 : ¬ ((c.all.length : Int) < (c.all.length : Int)) := by omega
      have HR := Lib.hid (pf_all HDN.out)
      clear HDN
      go_wp2
      go_ret
      rw [HR.out]
      exact ⟨rfl, M.out.take 0⟩
set_option maxRecDepth 100000 in
set_option maxHeartbeats 4000000 in
theorem CheckDuties_any (F : Fld) (hF : F.ok) (p : Prices) (hp : p.ok) (c : Cs) (hc : c.ok) (hk : prCode F p [] c = 0) (A : Aim F c.all) (B : Option Addr) (nb : Nat) (ds : List Int) (hd : Duties ds) (hl1 : ds.length ≤ c.all.length) (hl2 : c.all.length ≤ ds.length) (w : World) (hs : Sl w 1 B ds.length (flat oneI ds)) :
    Calls Try.prog 19 #[.agg F.cells, .agg p.vals.toArray, .agg c.cells, .slice B ds.length nb] w fun e w' => e = .returned (.tuple #[.bool (pfB F p c.all ds), .int .i64 0]) ∧ Mem w w' [] := by
  have M := Lib.hid (Mem.start w)
  have HF := Lib.hid hF
  have HS := Lib.hid hs
  have S1 := Lib.hid (Fld.size hF.toLen)
  have h1 := (prCode_0 hk).2
  have HG := Lib.hid (prCode_0 hk).1
  have h12 := (ntCode_0 h1).2.2.1
  have HK := Lib.hid hk
  have HD := Lib.hid hd
  have HV := Lib.hid (netsOk_iff.1 (ntCode_0 h1).1).1
  clear hF hs hk h1 hd
  go_enter Try.func19, Try.ntmps19
  go_wp2_with (first
    | ((with_reducible refine gate_dst (N := 4) rfl ?_); go_must (refine M.out.ev_new rfl (by first | (go_simp; done) | (go_simp; rfl)) ?_); intro g4 w4 m; simp only [List.cons_append, List.nil_append] at m; have M := Lib.hid m; clear m)
    | ((with_reducible refine gate_dst (N := 5) rfl ?_); go_must (refine M.out.ev_new rfl (by first | (go_simp; done) | (go_simp; rfl)) ?_); intro g5 w5 m; simp only [List.cons_append, List.nil_append] at m; have M := Lib.hid m; clear m)
    | ((with_reducible refine gate_dst (N := 6) rfl ?_); go_must (refine M.out.ev_new rfl (by first | (go_simp; done) | (go_simp; rfl)) ?_); intro g6 w6 m; simp only [List.cons_append, List.nil_append] at m; have M := Lib.hid m; clear m)
    | ((with_reducible refine gate_dst (N := 11) rfl ?_); go_must (refine M.out.ev_ldw 1 _ _ rfl rfl rfl Try.underlying37 rfl (by first | exact sz37 | (rw [S1.out]; exact sz37) | (rw [S2.out]; exact sz37) | (rw [S3.out]; exact sz37)) rfl ?_))
    | ((with_reducible refine gate_dst (N := 12) rfl ?_); go_must (refine M.out.ev_ldw 2 _ _ rfl rfl rfl Try.underlying39 rfl (by first | exact sz39 | (rw [S1.out]; exact sz39) | (rw [S2.out]; exact sz39) | (rw [S3.out]; exact sz39)) rfl ?_))
    | ((with_reducible refine gate_dst (N := 17) rfl ?_); go_must (refine M.out.ev_ldw 1 _ _ rfl rfl rfl Try.underlying37 rfl (by first | exact sz37 | (rw [S1.out]; exact sz37) | (rw [S2.out]; exact sz37) | (rw [S3.out]; exact sz37)) rfl ?_))
    | ((with_reducible refine gate_dst (N := 18) rfl ?_); go_must (refine M.out.ev_ldw 2 _ _ rfl rfl rfl Try.underlying39 rfl (by first | exact sz39 | (rw [S1.out]; exact sz39) | (rw [S2.out]; exact sz39) | (rw [S3.out]; exact sz39)) rfl ?_))
    | (go_at_call 41; go_must (refine (pricesNil_any g4 F HF.out p hp c hc _ (M.out.blk 0 rfl)).mono ?_); rintro e w_ ⟨rfl, N_⟩; have m := M.out.join N_; clear N_; simp only [List.cons_append, List.nil_append, List.append_nil] at m; have M := Lib.hid m; clear m; rw [HK.out])
    | (go_at_call 58; go_must (refine (isProof_any g4 F HF.out HV.out p HG.out c hc h12 A B nb ds HD.out hl1 hl2 _ (M.out.blk 0 rfl) (M.out.sl HS.out)).mono ?_); rintro e w_ ⟨rfl, N_⟩; have m := M.out.join N_; clear N_; simp only [List.cons_append, List.nil_append, List.append_nil] at m; have M := Lib.hid m; clear m; skip)
    )
  go_ret2
  exact ⟨rfl, M.out.take 0⟩
set_option maxRecDepth 100000 in
set_option maxHeartbeats 4000000 in
theorem DutyBound_any (F : Fld) (hF : F.ok) (p : Prices) (hp : p.ok) (c : Cs) (hc : c.ok) (hk : prCode F p [] c = 0) (A : Aim F c.all) (B : Option Addr) (nb : Nat) (ds : List Int) (hd : Duties ds) (hl1 : ds.length ≤ c.all.length) (hl2 : c.all.length ≤ ds.length) (w : World) (hs : Sl w 1 B ds.length (flat oneI ds)) :
    Calls Try.prog 20 #[.agg F.cells, .agg p.vals.toArray, .agg c.cells, .slice B ds.length nb] w fun e w' => e = .returned (.tuple #[.int .i64 (if pfB F p c.all ds = true then duS (gi ds) ds.length else 0), .int .i64 (if pfB F p c.all ds = true then 0 else 8)]) ∧ Mem w w' [] := by
  have M := Lib.hid (Mem.start w)
  have HF := Lib.hid hF
  have HS := Lib.hid hs
  have S1 := Lib.hid (Fld.size hF.toLen)
  have h1 := (prCode_0 hk).2
  have HG := Lib.hid (prCode_0 hk).1
  have h12 := (ntCode_0 h1).2.2.1
  have HK := Lib.hid hk
  have HD := Lib.hid hd
  have HV := Lib.hid (netsOk_iff.1 (ntCode_0 h1).1).1
  clear hF hs hk h1 hd
  cases hq : pfB F p c.all ds
  · have HQ := Lib.hid hq
    clear hq
    go_enter Try.func20, Try.ntmps20
    go_wp2_with (first
      | ((with_reducible refine gate_dst (N := 4) rfl ?_); go_must (refine M.out.ev_new rfl (by first | (go_simp; done) | (go_simp; rfl)) ?_); intro g4 w4 m; simp only [List.cons_append, List.nil_append] at m; have M := Lib.hid m; clear m)
      | ((with_reducible refine gate_dst (N := 5) rfl ?_); go_must (refine M.out.ev_new rfl (by first | (go_simp; done) | (go_simp; rfl)) ?_); intro g5 w5 m; simp only [List.cons_append, List.nil_append] at m; have M := Lib.hid m; clear m)
      | ((with_reducible refine gate_dst (N := 6) rfl ?_); go_must (refine M.out.ev_new rfl (by first | (go_simp; done) | (go_simp; rfl)) ?_); intro g6 w6 m; simp only [List.cons_append, List.nil_append] at m; have M := Lib.hid m; clear m)
      | ((with_reducible refine gate_dst (N := 14) rfl ?_); go_must (refine M.out.ev_ldw 1 _ _ rfl rfl rfl Try.underlying37 rfl (by first | exact sz37 | (rw [S1.out]; exact sz37) | (rw [S2.out]; exact sz37) | (rw [S3.out]; exact sz37)) rfl ?_))
      | ((with_reducible refine gate_dst (N := 15) rfl ?_); go_must (refine M.out.ev_ldw 2 _ _ rfl rfl rfl Try.underlying39 rfl (by first | exact sz39 | (rw [S1.out]; exact sz39) | (rw [S2.out]; exact sz39) | (rw [S3.out]; exact sz39)) rfl ?_))
      | ((with_reducible refine gate_dst (N := 22) rfl ?_); go_must (refine M.out.ev_ldw 1 _ _ rfl rfl rfl Try.underlying37 rfl (by first | exact sz37 | (rw [S1.out]; exact sz37) | (rw [S2.out]; exact sz37) | (rw [S3.out]; exact sz37)) rfl ?_))
      | ((with_reducible refine gate_dst (N := 23) rfl ?_); go_must (refine M.out.ev_ldw 2 _ _ rfl rfl rfl Try.underlying39 rfl (by first | exact sz39 | (rw [S1.out]; exact sz39) | (rw [S2.out]; exact sz39) | (rw [S3.out]; exact sz39)) rfl ?_))
      | (go_at_call 41; go_must (refine (pricesNil_any g4 F HF.out p hp c hc _ (M.out.blk 0 rfl)).mono ?_); rintro e w_ ⟨rfl, N_⟩; have m := M.out.join N_; clear N_; simp only [List.cons_append, List.nil_append, List.append_nil] at m; have M := Lib.hid m; clear m; rw [HK.out])
      | (go_at_call 58; go_must (refine (isProof_any g4 F HF.out HV.out p HG.out c hc h12 A B nb ds HD.out hl1 hl2 _ (M.out.blk 0 rfl) (M.out.sl HS.out)).mono ?_); rintro e w_ ⟨rfl, N_⟩; have m := M.out.join N_; clear N_; simp only [List.cons_append, List.nil_append, List.append_nil] at m; have M := Lib.hid m; clear m; rw [HQ.out])
      )
    go_ret2
    exact ⟨rfl, M.out.take 0⟩
  · have HQ := Lib.hid hq
    clear hq
    go_enter Try.func20, Try.ntmps20
    go_wp2_with (first
      | ((with_reducible refine gate_dst (N := 4) rfl ?_); go_must (refine M.out.ev_new rfl (by first | (go_simp; done) | (go_simp; rfl)) ?_); intro g4 w4 m; simp only [List.cons_append, List.nil_append] at m; have M := Lib.hid m; clear m)
      | ((with_reducible refine gate_dst (N := 5) rfl ?_); go_must (refine M.out.ev_new rfl (by first | (go_simp; done) | (go_simp; rfl)) ?_); intro g5 w5 m; simp only [List.cons_append, List.nil_append] at m; have M := Lib.hid m; clear m)
      | ((with_reducible refine gate_dst (N := 6) rfl ?_); go_must (refine M.out.ev_new rfl (by first | (go_simp; done) | (go_simp; rfl)) ?_); intro g6 w6 m; simp only [List.cons_append, List.nil_append] at m; have M := Lib.hid m; clear m)
      | ((with_reducible refine gate_dst (N := 14) rfl ?_); go_must (refine M.out.ev_ldw 1 _ _ rfl rfl rfl Try.underlying37 rfl (by first | exact sz37 | (rw [S1.out]; exact sz37) | (rw [S2.out]; exact sz37) | (rw [S3.out]; exact sz37)) rfl ?_))
      | ((with_reducible refine gate_dst (N := 15) rfl ?_); go_must (refine M.out.ev_ldw 2 _ _ rfl rfl rfl Try.underlying39 rfl (by first | exact sz39 | (rw [S1.out]; exact sz39) | (rw [S2.out]; exact sz39) | (rw [S3.out]; exact sz39)) rfl ?_))
      | ((with_reducible refine gate_dst (N := 22) rfl ?_); go_must (refine M.out.ev_ldw 1 _ _ rfl rfl rfl Try.underlying37 rfl (by first | exact sz37 | (rw [S1.out]; exact sz37) | (rw [S2.out]; exact sz37) | (rw [S3.out]; exact sz37)) rfl ?_))
      | ((with_reducible refine gate_dst (N := 23) rfl ?_); go_must (refine M.out.ev_ldw 2 _ _ rfl rfl rfl Try.underlying39 rfl (by first | exact sz39 | (rw [S1.out]; exact sz39) | (rw [S2.out]; exact sz39) | (rw [S3.out]; exact sz39)) rfl ?_))
      | (go_at_call 41; go_must (refine (pricesNil_any g4 F HF.out p hp c hc _ (M.out.blk 0 rfl)).mono ?_); rintro e w_ ⟨rfl, N_⟩; have m := M.out.join N_; clear N_; simp only [List.cons_append, List.nil_append, List.append_nil] at m; have M := Lib.hid m; clear m; rw [HK.out])
      | (go_at_call 58; go_must (refine (isProof_any g4 F HF.out HV.out p HG.out c hc h12 A B nb ds HD.out hl1 hl2 _ (M.out.blk 0 rfl) (M.out.sl HS.out)).mono ?_); rintro e w_ ⟨rfl, N_⟩; have m := M.out.join N_; clear N_; simp only [List.cons_append, List.nil_append, List.append_nil] at m; have M := Lib.hid m; clear m; rw [HQ.out])
      )
    go_loopw [11, 29] (fun u v wr => ∃ j : Nat, j ≤ ds.length ∧ v = .int .i64 j ∧ u = .int .i64 (duS (gi ds) j) ∧ Mem w wr [])
      (fun _ v _ => ds.length - (intOf v).toNat)
    case atStart => exact ⟨0, by omega, rfl, rfl, M.out.take 0⟩
    case round =>
      clear M
      obtain ⟨j, hj, rfl, rfl, m⟩ := hrel
      have M := Lib.hid m
      clear m
      by_cases hjt : j < ds.length
      · have HGI := Lib.hid (gi_at hjt)
        have hgb := HD.out.b j
        obtain ⟨ob, ooff, rfl, _⟩ := HS.out.2 (by omega)
        have x1 := (M.out.sl HS.out).atI HGI.out
        have E1 := Lib.hid (show duS (gi ds) (j + 1) = duS (gi ds) j + gi ds j from rfl)
        have sb := duS_b HD.out j
        have j0 : (0 : Int) ≤ (j : Int) := by omega
        have j1 : (j : Int) < (ds.length : Int) := by omega
        obtain ⟨y, hy⟩ : ∃ y, y = gi ds j := ⟨_, rfl⟩
        obtain ⟨s, hs⟩ : ∃ s, s = duS (gi ds) j := ⟨_, rfl⟩
        rw [← hy] at HGI x1 hgb
        rw [← hy, ← hs] at E1
        rw [← hs] at sb ⊢
        clear hy hs
        have w1 : IntKind.i64.wrap (s + y) = s + y := IntWalk.i64_in _ (by omega)
        go_wp2
        exact ⟨⟨j + 1, by omega, by go_num, by rw [E1.out], M.out⟩, by simp [intOf]; try omega⟩
      · obtain rfl : j = ds.length := by omega
        go_wp2
        go_ret2
        exact ⟨rfl, M.out⟩
end Go.Proofs.Ytjkclggdaafmaaa
