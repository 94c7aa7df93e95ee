/- Texts of a proof, laid together: Useless2. -/
import Derived.Test.YtoacnfofijikmaaGreatDoorZR18
import Derived.Test.YtoacnfofijikmaaGreatDoorZR03
namespace Go.Proofs.YtoacnfofijikmaaGreatDoor
set_option linter.unusedSimpArgs false
set_option linter.unusedVariables false
open Go.RowKit
attribute [local go_sem] cell?_mk frozen?_mk

theorem Sl.dropN {α : Type} {en : α → List Value} {w : World} {sz b off : Nat} {xs : List α} (hen : ∀ x, (en x).length = sz) (h : Sl w sz (some ⟨b, off, none⟩) xs.length (flat en xs)) (k : Nat) (hk : k ≤ xs.length) : Sl w sz (some ⟨b, off + k * sz, none⟩) (xs.length - k) (flat en (xs.drop k)) := by
  refine ⟨by rw [flat_len hen, List.length_drop], fun hn => ⟨b, off + k * sz, rfl, fun j v hv => ?_⟩⟩
  obtain ⟨b', off', he, hr⟩ := h.2 (by omega)
  injection he with he
  injection he with h1 h2
  subst h1 h2
  have h3 : flat en xs = flat en (xs.take k) ++ flat en (xs.drop k) := by rw [← flat_append, List.take_append_drop]
  have h4 : (flat en (xs.take k)).length = k * sz := by rw [flat_len hen, List.length_take, Nat.min_eq_left hk]
  have := hr (k * sz + j) v (by rw [h3, List.getElem?_append_right (by omega), h4, Nat.add_sub_cancel_left]; exact hv)
  rwa [← Nat.add_assoc] at this
set_option maxRecDepth 100000 in
set_option maxHeartbeats 2000000 in
theorem spec_UselessScares_any (F : Fld) (hF : F.ok) (A : Option Addr) (n : Nat) (xs : List Scarecrow) (hx : ∀ x ∈ xs, x.ok) (hl : xs.length ≤ 1048576) (hc : xs.length ≤ n) (hn : n ≤ 9223372036854775807) (hA : A = none → n = 0) (least : Int) (w : World) (hs : Sl w 3 A xs.length (flat Scarecrow.vals xs)) :
    Calls Tryz.prog 27 #[.agg F.cells, .slice A xs.length n, .int .i64 least] w (RetRowC w 2 1 (uselessRes F xs least).length (flat one64 (uselessRes F xs least)) (safeCode F xs least)) := by
  have M := Lib.hid (Mem.start w)
  have HX := Lib.hid hx
  have HS := Lib.hid hs
  have HF := Lib.hid hF
  have S1 := Lib.hid (Fld.size hF.toLen)
  have O1 := Lib.hid (Cs.one (safeSet F xs least))
  have hm : xs.length ≤ 9223372036854775807 := by omega
  have HSC := Lib.hid (show scCode F xs (inB least 1 1000) = safeCode F xs least from rfl)
  clear hx hs hF
  by_cases hd : safeCode F xs least = 0
  · obtain ⟨h1, h2, h3⟩ := scCode_0 hd
    have HP := Lib.hid (scOk_plain h2)
    have HD := Lib.hid hd
    have hdd : (safeCode F xs least != 0) = false := by simp [hd]
    clear h1 h2 h3 hd
    go_enter Tryz.func27, Tryz.ntmps27
    go_wp2_with (first
      | ((with_reducible refine gate_dst (N := 3) rfl ?_); go_must (refine M.out.ev_new rfl (by first | (go_simp; done) | (go_simp; rfl)) ?_); intro g3 w3 m; simp only [List.cons_append, List.nil_append] at m; have M := Lib.hid m; clear m)
      | ((with_reducible refine gate_dst (N := 9) rfl ?_); go_must (refine M.out.ev_new rfl (by first | (go_simp; done) | (go_simp; rfl)) ?_); intro g9 w9 m; simp only [List.cons_append, List.nil_append] at m; have M := Lib.hid m; clear m)
      | ((with_reducible refine gate_store (x := .tmp 9) rfl ?_); go_must (refine M.out.ev_stw 1 _ _ _ rfl rfl rfl rfl _ rfl (by first | rfl | (simp only [S1.out]; rfl) | (simp only [S1.out, S2.out]; rfl) | (simp only [S3.out]; rfl) | (simp only [S1.out, S2.out, S3.out]; rfl)) (by first | exact sz44 | (rw [S1.out]; exact sz44) | (rw [S2.out]; exact sz44) | (rw [S3.out]; exact sz44)) (by first | exact ints_one _ _ | exact Fld.one _ | exact O1.out | rfl | (simp [Value.oneCell']; done)) rfl ?_); intro wn m; simp only [List.set_cons_succ, List.set_cons_zero, List.setIfInBounds_toArray] at m; have M := Lib.hid m; clear m)
      | ((with_reducible refine gate_dst (N := 44) rfl ?_); go_must (refine M.out.ev_ldw 1 _ _ rfl rfl rfl Tryz.underlying44 rfl (by first | exact sz44 | (rw [S1.out]; exact sz44) | (rw [S2.out]; exact sz44) | (rw [S3.out]; exact sz44)) rfl ?_))
      | (go_at_call 56; go_must (refine (l03Power_any _ _).mono ?_); rintro e w_ ⟨rfl, rfl⟩)
      | (go_at_call 49; go_must (refine (l03Asked_any _ F HF.out A n xs HX.out hm _ _ (M.out.blk 0 rfl) (M.out.sl HS.out)).mono ?_); rintro e w_ ⟨rfl, N_⟩; have m := M.out.join N_; clear N_; simp only [List.cons_append, List.nil_append, List.append_nil] at m; have M := Lib.hid m; clear m; rw [HSC.out])
      | (go_at_call 57; go_must (refine (l03Safe_any _ F HF.out A n xs HP.out hl least _ (M.out.blk 0 rfl) (M.out.sl HS.out)).mono ?_); rintro e w_ ⟨rfl, N_⟩; have m := M.out.join N_; clear N_; simp only [List.cons_append, List.nil_append, List.append_nil] at m; have M := Lib.hid m; clear m)
      | ((with_reducible refine gate_dst (N := 24) rfl ?_); go_must (refine M.out.ev_bs0 elem_int64 rfl rfl ?_); intro g24 w24 m; simp only [List.cons_append, List.nil_append] at m; have M := Lib.hid m; clear m)
      )
    go_loopw [10, 11] (fun s v wr => ∃ k : Nat, k ≤ xs.length ∧ v = .int .i64 k ∧ Mem w wr [.blk g3 29 F.cells, .blk g9 44 (safeSet F xs least).cells, .row s 2 1 (uselessTo F xs least k).length (flat one64 (uselessTo F xs least k))])
      (fun _ v _ => xs.length - (intOf v).toNat)
    case atStart => exact ⟨0, by omega, rfl, M.out⟩
    case round =>
      clear M
      obtain ⟨k, hk, rfl, m⟩ := hrel
      have M := Lib.hid m
      clear m
      have hul := uselessTo_len F xs least k
      by_cases hlt : k < xs.length
      · obtain ⟨b, off, rfl, _⟩ := HS.out.2 (by omega)
        have e1 : IntKind.i64.wrap ((k : Int) + 1) = (k : Int) + 1 := IntWalk.i64_in _ (by omega)
        have i4 : ((k : Int) + 1).toNat = k + 1 := by omega
        have i0 : (0 : Int) ≤ (k : Int) := by omega
        have i2 : (k : Int) + 1 ≤ (xs.length : Int) := by omega
        have i5 : (0 : Int) ≤ (k : Int) + 1 := by omega
        have hc0 : ¬ (n = 0) := by omega
        have hkc : k ≤ n := by omega
        have hle : (xs.eraseIdx k).length = xs.length - 1 := List.length_eraseIdx_of_lt hlt
        have SCE := Lib.hid (fun g A n w hb hs => l03Safe_any g (t := 29) F HF.out A n (xs.eraseIdx k) (fun x hx => HP.out x (List.mem_of_mem_eraseIdx hx)) (by omega) least w hb hs)
        rw [hle] at SCE
        have HER := Lib.hid (show flat Scarecrow.vals (xs.take k) ++ flat Scarecrow.vals (xs.drop (k + 1)) = flat Scarecrow.vals (xs.eraseIdx k) by rw [← flat_append, List.eraseIdx_eq_take_drop_succ])
        have HK2 := Lib.hid (show k + (xs.length - (k + 1)) = xs.length - 1 by omega)
        have heq := eqCs (safeSet F (xs.eraseIdx k) least) (safeSet F xs least)
        have HU := Lib.hid (uselessTo_succ F xs least k)
        clear hle
        by_cases hce : n = k + 1
        · subst hce
          have hq1 : k ≤ k + 1 := by omega
          have hq2 : (k : Int) ≤ (k : Int) + 1 := by omega
          have hq3 : ¬ (k + 1 = 0) := by omega
          have HKZ := Lib.hid (show k + 0 = xs.length - 1 by omega)
          have HNIL := Lib.hid (fun w2 : World => show Sl w2 3 (some ⟨b, off, none⟩) 0 (flat Scarecrow.vals (xs.drop (k + 1))) by rw [List.drop_of_length_le (by omega)]; exact Sl.nil_)
          cases hq : uselessAt F xs least k
          all_goals
            have HQ := Lib.hid hq
            rw [show (safeSet F (xs.eraseIdx k) least).same (safeSet F xs least) = uselessAt F xs least k from rfl, hq] at heq
            clear hq
            go_wp2
            refine region_anyH (fun w' => Mem w w' [.blk g3 29 F.cells, .blk g9 44 (safeSet F xs least).cells]) (by kernel_rfl) ?_
            have m := M.out.drew
            clear M
            have M := Lib.hid m
            clear m
            apply takeH (i := 1) 32 rfl (by kernel_rfl) (by kernel_rfl) (by kernel_rfl) (fun _ _ _ h => h) rfl (by first | exact M.out | exact M.out.take 2)
            case' hy =>
              refine Or.inl ⟨by first | rfl | (go_simp; done), ?_⟩
              intro w hS
              clear hS
              go_simp
              try with_reducible rfl
            try simp only [Act.put, List.getElem_toArray, List.getElem_cons_succ, List.getElem_cons_zero, List.setIfInBounds_toArray, List.set_cons_succ, List.set_cons_zero]
            apply takeH (i := 2) 33 rfl (by kernel_rfl) (by kernel_rfl) (by kernel_rfl) (fun _ _ _ h => h) rfl (by first | exact M.out | exact M.out.take 2)
            case' hy =>
              refine Or.inl ⟨by first | rfl | (go_simp; done), ?_⟩
              intro w hS
              clear hS
              go_simp
              try with_reducible rfl
            try simp only [Act.put, List.getElem_toArray, List.getElem_cons_succ, List.getElem_cons_zero, List.setIfInBounds_toArray, List.set_cons_succ, List.set_cons_zero]
            apply takeH (i := 3) 34 rfl (by kernel_rfl) (by kernel_rfl) (by kernel_rfl) (fun _ _ _ h => h) rfl (by first | exact M.out | exact M.out.take 2)
            case' hy =>
              refine Or.inl ⟨by first | rfl | (go_simp; done), ?_⟩
              intro w hS
              clear hS
              go_simp
              try with_reducible rfl
            try simp only [Act.put, List.getElem_toArray, List.getElem_cons_succ, List.getElem_cons_zero, List.setIfInBounds_toArray, List.set_cons_succ, List.set_cons_zero]
            apply takeH (i := 5) 36 rfl (by kernel_rfl) (by kernel_rfl) (by kernel_rfl) (fun _ _ _ h => h) rfl (by first | exact M.out | exact M.out.take 2)
            case' hy =>
              refine Or.inl ⟨by first | rfl | (go_simp; done), ?_⟩
              intro w hS
              clear hS
              go_simp
              try with_reducible rfl
            try simp only [Act.put, List.getElem_toArray, List.getElem_cons_succ, List.getElem_cons_zero, List.setIfInBounds_toArray, List.set_cons_succ, List.set_cons_zero]
            apply takeH (i := 6) 37 rfl (by kernel_rfl) (by kernel_rfl) (by kernel_rfl) (fun _ _ _ h => h) rfl (by first | exact M.out | exact M.out.take 2)
            case' hy =>
              refine Or.inl ⟨by first | rfl | (go_simp; done), ?_⟩
              intro w hS
              clear hS
              go_simp
              try with_reducible rfl
            try simp only [Act.put, List.getElem_toArray, List.getElem_cons_succ, List.getElem_cons_zero, List.setIfInBounds_toArray, List.set_cons_succ, List.set_cons_zero]
            apply takeH (i := 7) 38 rfl (by kernel_rfl) (by kernel_rfl) (by kernel_rfl) (fun _ _ _ h => h) rfl (by first | exact M.out | exact M.out.take 2)
            case' hy =>
              refine Or.inl ⟨by first | rfl | (go_simp; done), ?_⟩
              intro w hS
              clear hS
              go_simp
              try with_reducible rfl
            try simp only [Act.put, List.getElem_toArray, List.getElem_cons_succ, List.getElem_cons_zero, List.setIfInBounds_toArray, List.set_cons_succ, List.set_cons_zero]
            apply takeH (i := 8) 39 rfl (by kernel_rfl) (by kernel_rfl) (by kernel_rfl) (fun _ _ _ h => h) rfl (by first | exact M.out | exact M.out.take 2)
            case' hy =>
              refine Or.inl ⟨by first | rfl | (go_simp; done), ?_⟩
              intro w hS
              clear hS
              go_simp
              try with_reducible rfl
            try simp only [Act.put, List.getElem_toArray, List.getElem_cons_succ, List.getElem_cons_zero, List.setIfInBounds_toArray, List.set_cons_succ, List.set_cons_zero]
            refine any1H 0 (by kernel_rfl) rfl (fun K hK => ?_)
            go_wp2_with (first | ((with_reducible refine gate_dst (N := 31) rfl ?_); go_must (refine M.out.ev_bs0 elem_Scarecrow rfl rfl ?_); intro g31 w31 m; simp only [List.cons_append, List.nil_append] at m; have M := Lib.hid m; clear m) | ((with_reducible refine gate_dst (N := 35) rfl ?_); go_must (refine M.out.ev_appends 3 elem_Scarecrow rfl _ _ rfl rfl rfl rfl ((M.out.sl HS.out).takeN Scarecrow.vl k (by omega)) (fun h => by cases h) (by omega) (flat_one Scarecrow.ones _) (by omega) (by decide) ?_); intro v35 w35 m; simp only [List.set_cons_succ, List.set_cons_zero, List.nil_append, Nat.zero_add] at m; have M := Lib.hid m; clear m) | ((with_reducible refine gate_dst (N := 40) rfl ?_); go_must (refine M.out.ev_appends 3 elem_Scarecrow rfl _ _ rfl rfl rfl rfl (HNIL.out _) (fun h => by cases h) (by omega) (flat_one Scarecrow.ones _) (by omega) (by decide) ?_); intro v40 w40 m; simp only [List.set_cons_succ, List.set_cons_zero] at m; rw [HER.out, HKZ.out] at m; obtain ⟨B_, cB_, rfl, hcB_, _⟩ := m.row_slice 3 rfl; have M := Lib.hid m; clear m))
            refine onward_normal (hK _ _ ⟨(by first | exact M.out | exact M.out.take 2), ?_⟩)
            clear hK K
            try simp only [Act.put, List.getElem_toArray, List.getElem_cons_succ, List.getElem_cons_zero, List.setIfInBounds_toArray, List.set_cons_succ, List.set_cons_zero]
            refine any1H 4 (by kernel_rfl) rfl (fun K hK => ?_)
            go_wp2_with (first | ((with_reducible refine gate_dst (N := 31) rfl ?_); go_must (refine M.out.ev_bs0 elem_Scarecrow rfl rfl ?_); intro g31 w31 m; simp only [List.cons_append, List.nil_append] at m; have M := Lib.hid m; clear m) | ((with_reducible refine gate_dst (N := 35) rfl ?_); go_must (refine M.out.ev_appends 3 elem_Scarecrow rfl _ _ rfl rfl rfl rfl ((M.out.sl HS.out).takeN Scarecrow.vl k (by omega)) (fun h => by cases h) (by omega) (flat_one Scarecrow.ones _) (by omega) (by decide) ?_); intro v35 w35 m; simp only [List.set_cons_succ, List.set_cons_zero, List.nil_append, Nat.zero_add] at m; have M := Lib.hid m; clear m) | ((with_reducible refine gate_dst (N := 40) rfl ?_); go_must (refine M.out.ev_appends 3 elem_Scarecrow rfl _ _ rfl rfl rfl rfl (HNIL.out _) (fun h => by cases h) (by omega) (flat_one Scarecrow.ones _) (by omega) (by decide) ?_); intro v40 w40 m; simp only [List.set_cons_succ, List.set_cons_zero] at m; rw [HER.out, HKZ.out] at m; obtain ⟨B_, cB_, rfl, hcB_, _⟩ := m.row_slice 3 rfl; have M := Lib.hid m; clear m))
            refine onward_normal (hK _ _ ⟨(by first | exact M.out | exact M.out.take 2), ?_⟩)
            clear hK K
            try simp only [Act.put, List.getElem_toArray, List.getElem_cons_succ, List.getElem_cons_zero, List.setIfInBounds_toArray, List.set_cons_succ, List.set_cons_zero]
            refine any1H 9 (by kernel_rfl) rfl (fun K hK => ?_)
            go_wp2_with (first | ((with_reducible refine gate_dst (N := 31) rfl ?_); go_must (refine M.out.ev_bs0 elem_Scarecrow rfl rfl ?_); intro g31 w31 m; simp only [List.cons_append, List.nil_append] at m; have M := Lib.hid m; clear m) | ((with_reducible refine gate_dst (N := 35) rfl ?_); go_must (refine M.out.ev_appends 3 elem_Scarecrow rfl _ _ rfl rfl rfl rfl ((M.out.sl HS.out).takeN Scarecrow.vl k (by omega)) (fun h => by cases h) (by omega) (flat_one Scarecrow.ones _) (by omega) (by decide) ?_); intro v35 w35 m; simp only [List.set_cons_succ, List.set_cons_zero, List.nil_append, Nat.zero_add] at m; have M := Lib.hid m; clear m) | ((with_reducible refine gate_dst (N := 40) rfl ?_); go_must (refine M.out.ev_appends 3 elem_Scarecrow rfl _ _ rfl rfl rfl rfl (HNIL.out _) (fun h => by cases h) (by omega) (flat_one Scarecrow.ones _) (by omega) (by decide) ?_); intro v40 w40 m; simp only [List.set_cons_succ, List.set_cons_zero] at m; rw [HER.out, HKZ.out] at m; obtain ⟨B_, cB_, rfl, hcB_, _⟩ := m.row_slice 3 rfl; have M := Lib.hid m; clear m))
            refine onward_normal (hK _ _ ⟨(by first | exact M.out | exact M.out.take 2), ?_⟩)
            clear hK K
            try simp only [Act.put, List.getElem_toArray, List.getElem_cons_succ, List.getElem_cons_zero, List.setIfInBounds_toArray, List.set_cons_succ, List.set_cons_zero]
            apply takeH (i := 10) 12 rfl (by kernel_rfl) (by kernel_rfl) (by kernel_rfl) (fun _ _ _ h => h) rfl (by first | exact M.out | exact M.out.take 2)
            case' hy =>
              refine Or.inl ⟨by first | rfl | (go_simp; done), ?_⟩
              intro w hS
              clear hS
              go_simp
              try with_reducible rfl
            try simp only [Act.put, List.getElem_toArray, List.getElem_cons_succ, List.getElem_cons_zero, List.setIfInBounds_toArray, List.set_cons_succ, List.set_cons_zero]
            refine wpAnyH_done (by kernel_rfl) ?_ _
            go_wp2
            refine region_anyH (fun w' => Mem w w' [.blk g3 29 F.cells, .blk g9 44 (safeSet F xs least).cells]) (by kernel_rfl) ?_
            have m := M.out.drew
            clear M
            have M := Lib.hid m
            clear m
            apply takeH (i := 0) 41 rfl (by kernel_rfl) (by kernel_rfl) (by kernel_rfl) (fun _ _ _ h => h) rfl (by first | exact M.out | exact M.out.take 2)
            case' hy =>
              refine Or.inl ⟨by first | rfl | (go_simp; done), ?_⟩
              intro w hS
              clear hS
              go_simp
              try with_reducible rfl
            try simp only [Act.put, List.getElem_toArray, List.getElem_cons_succ, List.getElem_cons_zero, List.setIfInBounds_toArray, List.set_cons_succ, List.set_cons_zero]
            apply takeH (i := 1) 42 rfl (by kernel_rfl) (by kernel_rfl) (by kernel_rfl) (fun _ _ _ h => h) rfl (by first | exact M.out | exact M.out.take 2)
            case' hy =>
              refine Or.inl ⟨by first | rfl | (go_simp; done), ?_⟩
              intro w hS
              clear hS
              go_simp
              try with_reducible rfl
            try simp only [Act.put, List.getElem_toArray, List.getElem_cons_succ, List.getElem_cons_zero, List.setIfInBounds_toArray, List.set_cons_succ, List.set_cons_zero]
            apply takeH (i := 3) 44 rfl (by kernel_rfl) (by kernel_rfl) (by kernel_rfl) (fun _ _ _ h => h) rfl (by first | exact M.out | exact M.out.take 2)
            case' hy => exact yldw _ _ rfl rfl Tryz.underlying44 rfl (by first | exact sz44 | (rw [S1.out]; exact sz44) | (rw [S2.out]; exact sz44) | (rw [S3.out]; exact sz44)) rfl (fun w' hS => hS.blk 1 rfl)
            try simp only [Act.put, List.getElem_toArray, List.getElem_cons_succ, List.getElem_cons_zero, List.setIfInBounds_toArray, List.set_cons_succ, List.set_cons_zero]
            refine any1H 2 (by kernel_rfl) rfl (fun K hK => ?_)
            go_wp2_with (first | ((with_reducible refine gate_dst (N := 44) rfl ?_); go_must (refine M.out.ev_ldw 1 _ _ rfl rfl rfl Tryz.underlying44 rfl (by first | exact sz44 | (rw [S1.out]; exact sz44) | (rw [S2.out]; exact sz44) | (rw [S3.out]; exact sz44)) rfl ?_)) | (go_at_call 57; go_must (refine (SCE.out _ _ _ _ (M.out.blk 0 rfl) (M.out.slof 3 rfl)).mono ?_); rintro e w_ ⟨rfl, N_⟩; have m := M.out.join N_; clear N_; simp only [List.cons_append, List.nil_append, List.append_nil] at m; have M := Lib.hid m; clear m))
            refine onward_normal (hK _ _ ⟨(by first | exact M.out | exact M.out.take 2), ?_⟩)
            clear hK K
            try simp only [Act.put, List.getElem_toArray, List.getElem_cons_succ, List.getElem_cons_zero, List.setIfInBounds_toArray, List.set_cons_succ, List.set_cons_zero]
            apply takeH (i := 4) 45 rfl (by kernel_rfl) (by kernel_rfl) (by kernel_rfl) (fun _ _ _ h => h) rfl (by first | exact M.out | exact M.out.take 2)
            case' hy =>
              refine Or.inl ⟨by first | rfl | (go_simp; done), ?_⟩
              intro w hS
              clear hS
              go_simp
              try with_reducible rfl
            try simp only [Act.put, List.getElem_toArray, List.getElem_cons_succ, List.getElem_cons_zero, List.setIfInBounds_toArray, List.set_cons_succ, List.set_cons_zero]
            refine wpAnyH_done (by kernel_rfl) ?_ _
            have m := M.out.only [0, 1, 2] (K := [.blk _ _ _, .blk _ _ _, .row _ _ _ _ _]) rfl (by decide)
            clear M
            have M := Lib.hid m
            clear m
            go_wp2_with (first
              | ((with_reducible refine gate_dst (N := 48) rfl ?_); go_must (refine M.out.ev_bs1 elem_int64 rfl _ rfl #[.int .i64 k] rfl rfl (by decide) ?_); intro g48 w48 m; simp only [List.cons_append, List.nil_append] at m; have M := Lib.hid m; clear m)
              | ((with_reducible refine gate_dst (N := 49) rfl ?_); go_must (refine M.out.ev_append1 2 3 elem_int64 rfl _ _ rfl rfl rfl rfl rfl rfl (by simp [Value.oneCell']) (by omega) (by decide) ?_); intro v49 w49 m; simp only [List.set_cons_succ, List.set_cons_zero] at m; have M := Lib.hid m; clear m)
              )
            refine ⟨⟨k + 1, by omega, by go_num, ?_⟩, by simp [intOf]; omega⟩
            have m := M.out.take 3
            rw [HU.out, HQ.out]
            simpa [flat_append, flat, one64, nat64] using m
        · cases hq : uselessAt F xs least k
          all_goals
            have HQ := Lib.hid hq
            rw [show (safeSet F (xs.eraseIdx k) least).same (safeSet F xs least) = uselessAt F xs least k from rfl, hq] at heq
            clear hq
            go_wp2
            refine region_anyH (fun w' => Mem w w' [.blk g3 29 F.cells, .blk g9 44 (safeSet F xs least).cells]) (by kernel_rfl) ?_
            have m := M.out.drew
            clear M
            have M := Lib.hid m
            clear m
            apply takeH (i := 1) 32 rfl (by kernel_rfl) (by kernel_rfl) (by kernel_rfl) (fun _ _ _ h => h) rfl (by first | exact M.out | exact M.out.take 2)
            case' hy =>
              refine Or.inl ⟨by first | rfl | (go_simp; done), ?_⟩
              intro w hS
              clear hS
              go_simp
              try with_reducible rfl
            try simp only [Act.put, List.getElem_toArray, List.getElem_cons_succ, List.getElem_cons_zero, List.setIfInBounds_toArray, List.set_cons_succ, List.set_cons_zero]
            apply takeH (i := 2) 33 rfl (by kernel_rfl) (by kernel_rfl) (by kernel_rfl) (fun _ _ _ h => h) rfl (by first | exact M.out | exact M.out.take 2)
            case' hy =>
              refine Or.inl ⟨by first | rfl | (go_simp; done), ?_⟩
              intro w hS
              clear hS
              go_simp
              try with_reducible rfl
            try simp only [Act.put, List.getElem_toArray, List.getElem_cons_succ, List.getElem_cons_zero, List.setIfInBounds_toArray, List.set_cons_succ, List.set_cons_zero]
            apply takeH (i := 3) 34 rfl (by kernel_rfl) (by kernel_rfl) (by kernel_rfl) (fun _ _ _ h => h) rfl (by first | exact M.out | exact M.out.take 2)
            case' hy =>
              refine Or.inl ⟨by first | rfl | (go_simp; done), ?_⟩
              intro w hS
              clear hS
              go_simp
              try with_reducible rfl
            try simp only [Act.put, List.getElem_toArray, List.getElem_cons_succ, List.getElem_cons_zero, List.setIfInBounds_toArray, List.set_cons_succ, List.set_cons_zero]
            apply takeH (i := 5) 36 rfl (by kernel_rfl) (by kernel_rfl) (by kernel_rfl) (fun _ _ _ h => h) rfl (by first | exact M.out | exact M.out.take 2)
            case' hy =>
              refine Or.inl ⟨by first | rfl | (go_simp; done), ?_⟩
              intro w hS
              clear hS
              go_simp
              try with_reducible rfl
            try simp only [Act.put, List.getElem_toArray, List.getElem_cons_succ, List.getElem_cons_zero, List.setIfInBounds_toArray, List.set_cons_succ, List.set_cons_zero]
            apply takeH (i := 6) 37 rfl (by kernel_rfl) (by kernel_rfl) (by kernel_rfl) (fun _ _ _ h => h) rfl (by first | exact M.out | exact M.out.take 2)
            case' hy =>
              refine Or.inl ⟨by first | rfl | (go_simp; done), ?_⟩
              intro w hS
              clear hS
              go_simp
              try with_reducible rfl
            try simp only [Act.put, List.getElem_toArray, List.getElem_cons_succ, List.getElem_cons_zero, List.setIfInBounds_toArray, List.set_cons_succ, List.set_cons_zero]
            apply takeH (i := 7) 38 rfl (by kernel_rfl) (by kernel_rfl) (by kernel_rfl) (fun _ _ _ h => h) rfl (by first | exact M.out | exact M.out.take 2)
            case' hy =>
              refine Or.inl ⟨by first | rfl | (go_simp; done), ?_⟩
              intro w hS
              clear hS
              go_simp
              try with_reducible rfl
            try simp only [Act.put, List.getElem_toArray, List.getElem_cons_succ, List.getElem_cons_zero, List.setIfInBounds_toArray, List.set_cons_succ, List.set_cons_zero]
            apply takeH (i := 8) 39 rfl (by kernel_rfl) (by kernel_rfl) (by kernel_rfl) (fun _ _ _ h => h) rfl (by first | exact M.out | exact M.out.take 2)
            case' hy =>
              refine Or.inl ⟨by first | rfl | (go_simp; done), ?_⟩
              intro w hS
              clear hS
              go_simp
              try with_reducible rfl
            try simp only [Act.put, List.getElem_toArray, List.getElem_cons_succ, List.getElem_cons_zero, List.setIfInBounds_toArray, List.set_cons_succ, List.set_cons_zero]
            refine any1H 0 (by kernel_rfl) rfl (fun K hK => ?_)
            go_wp2_with (first | ((with_reducible refine gate_dst (N := 31) rfl ?_); go_must (refine M.out.ev_bs0 elem_Scarecrow rfl rfl ?_); intro g31 w31 m; simp only [List.cons_append, List.nil_append] at m; have M := Lib.hid m; clear m) | ((with_reducible refine gate_dst (N := 35) rfl ?_); go_must (refine M.out.ev_appends 3 elem_Scarecrow rfl _ _ rfl rfl rfl rfl ((M.out.sl HS.out).takeN Scarecrow.vl k (by omega)) (fun h => by cases h) (by omega) (flat_one Scarecrow.ones _) (by omega) (by decide) ?_); intro v35 w35 m; simp only [List.set_cons_succ, List.set_cons_zero, List.nil_append, Nat.zero_add] at m; have M := Lib.hid m; clear m) | ((with_reducible refine gate_dst (N := 40) rfl ?_); go_must (refine M.out.ev_appends 3 elem_Scarecrow rfl _ _ rfl rfl rfl rfl ((M.out.sl HS.out).dropN Scarecrow.vl (k + 1) (by omega)) (fun h => by cases h) (by omega) (flat_one Scarecrow.ones _) (by omega) (by decide) ?_); intro v40 w40 m; simp only [List.set_cons_succ, List.set_cons_zero] at m; rw [HER.out, HK2.out] at m; obtain ⟨B_, cB_, rfl, hcB_, _⟩ := m.row_slice 3 rfl; have M := Lib.hid m; clear m))
            refine onward_normal (hK _ _ ⟨(by first | exact M.out | exact M.out.take 2), ?_⟩)
            clear hK K
            try simp only [Act.put, List.getElem_toArray, List.getElem_cons_succ, List.getElem_cons_zero, List.setIfInBounds_toArray, List.set_cons_succ, List.set_cons_zero]
            refine any1H 4 (by kernel_rfl) rfl (fun K hK => ?_)
            go_wp2_with (first | ((with_reducible refine gate_dst (N := 31) rfl ?_); go_must (refine M.out.ev_bs0 elem_Scarecrow rfl rfl ?_); intro g31 w31 m; simp only [List.cons_append, List.nil_append] at m; have M := Lib.hid m; clear m) | ((with_reducible refine gate_dst (N := 35) rfl ?_); go_must (refine M.out.ev_appends 3 elem_Scarecrow rfl _ _ rfl rfl rfl rfl ((M.out.sl HS.out).takeN Scarecrow.vl k (by omega)) (fun h => by cases h) (by omega) (flat_one Scarecrow.ones _) (by omega) (by decide) ?_); intro v35 w35 m; simp only [List.set_cons_succ, List.set_cons_zero, List.nil_append, Nat.zero_add] at m; have M := Lib.hid m; clear m) | ((with_reducible refine gate_dst (N := 40) rfl ?_); go_must (refine M.out.ev_appends 3 elem_Scarecrow rfl _ _ rfl rfl rfl rfl ((M.out.sl HS.out).dropN Scarecrow.vl (k + 1) (by omega)) (fun h => by cases h) (by omega) (flat_one Scarecrow.ones _) (by omega) (by decide) ?_); intro v40 w40 m; simp only [List.set_cons_succ, List.set_cons_zero] at m; rw [HER.out, HK2.out] at m; obtain ⟨B_, cB_, rfl, hcB_, _⟩ := m.row_slice 3 rfl; have M := Lib.hid m; clear m))
            refine onward_normal (hK _ _ ⟨(by first | exact M.out | exact M.out.take 2), ?_⟩)
            clear hK K
            try simp only [Act.put, List.getElem_toArray, List.getElem_cons_succ, List.getElem_cons_zero, List.setIfInBounds_toArray, List.set_cons_succ, List.set_cons_zero]
            refine any1H 9 (by kernel_rfl) rfl (fun K hK => ?_)
            go_wp2_with (first | ((with_reducible refine gate_dst (N := 31) rfl ?_); go_must (refine M.out.ev_bs0 elem_Scarecrow rfl rfl ?_); intro g31 w31 m; simp only [List.cons_append, List.nil_append] at m; have M := Lib.hid m; clear m) | ((with_reducible refine gate_dst (N := 35) rfl ?_); go_must (refine M.out.ev_appends 3 elem_Scarecrow rfl _ _ rfl rfl rfl rfl ((M.out.sl HS.out).takeN Scarecrow.vl k (by omega)) (fun h => by cases h) (by omega) (flat_one Scarecrow.ones _) (by omega) (by decide) ?_); intro v35 w35 m; simp only [List.set_cons_succ, List.set_cons_zero, List.nil_append, Nat.zero_add] at m; have M := Lib.hid m; clear m) | ((with_reducible refine gate_dst (N := 40) rfl ?_); go_must (refine M.out.ev_appends 3 elem_Scarecrow rfl _ _ rfl rfl rfl rfl ((M.out.sl HS.out).dropN Scarecrow.vl (k + 1) (by omega)) (fun h => by cases h) (by omega) (flat_one Scarecrow.ones _) (by omega) (by decide) ?_); intro v40 w40 m; simp only [List.set_cons_succ, List.set_cons_zero] at m; rw [HER.out, HK2.out] at m; obtain ⟨B_, cB_, rfl, hcB_, _⟩ := m.row_slice 3 rfl; have M := Lib.hid m; clear m))
            refine onward_normal (hK _ _ ⟨(by first | exact M.out | exact M.out.take 2), ?_⟩)
            clear hK K
            try simp only [Act.put, List.getElem_toArray, List.getElem_cons_succ, List.getElem_cons_zero, List.setIfInBounds_toArray, List.set_cons_succ, List.set_cons_zero]
            apply takeH (i := 10) 12 rfl (by kernel_rfl) (by kernel_rfl) (by kernel_rfl) (fun _ _ _ h => h) rfl (by first | exact M.out | exact M.out.take 2)
            case' hy =>
              refine Or.inl ⟨by first | rfl | (go_simp; done), ?_⟩
              intro w hS
              clear hS
              go_simp
              try with_reducible rfl
            try simp only [Act.put, List.getElem_toArray, List.getElem_cons_succ, List.getElem_cons_zero, List.setIfInBounds_toArray, List.set_cons_succ, List.set_cons_zero]
            refine wpAnyH_done (by kernel_rfl) ?_ _
            go_wp2
            refine region_anyH (fun w' => Mem w w' [.blk g3 29 F.cells, .blk g9 44 (safeSet F xs least).cells]) (by kernel_rfl) ?_
            have m := M.out.drew
            clear M
            have M := Lib.hid m
            clear m
            apply takeH (i := 0) 41 rfl (by kernel_rfl) (by kernel_rfl) (by kernel_rfl) (fun _ _ _ h => h) rfl (by first | exact M.out | exact M.out.take 2)
            case' hy =>
              refine Or.inl ⟨by first | rfl | (go_simp; done), ?_⟩
              intro w hS
              clear hS
              go_simp
              try with_reducible rfl
            try simp only [Act.put, List.getElem_toArray, List.getElem_cons_succ, List.getElem_cons_zero, List.setIfInBounds_toArray, List.set_cons_succ, List.set_cons_zero]
            apply takeH (i := 1) 42 rfl (by kernel_rfl) (by kernel_rfl) (by kernel_rfl) (fun _ _ _ h => h) rfl (by first | exact M.out | exact M.out.take 2)
            case' hy =>
              refine Or.inl ⟨by first | rfl | (go_simp; done), ?_⟩
              intro w hS
              clear hS
              go_simp
              try with_reducible rfl
            try simp only [Act.put, List.getElem_toArray, List.getElem_cons_succ, List.getElem_cons_zero, List.setIfInBounds_toArray, List.set_cons_succ, List.set_cons_zero]
            apply takeH (i := 3) 44 rfl (by kernel_rfl) (by kernel_rfl) (by kernel_rfl) (fun _ _ _ h => h) rfl (by first | exact M.out | exact M.out.take 2)
            case' hy => exact yldw _ _ rfl rfl Tryz.underlying44 rfl (by first | exact sz44 | (rw [S1.out]; exact sz44) | (rw [S2.out]; exact sz44) | (rw [S3.out]; exact sz44)) rfl (fun w' hS => hS.blk 1 rfl)
            try simp only [Act.put, List.getElem_toArray, List.getElem_cons_succ, List.getElem_cons_zero, List.setIfInBounds_toArray, List.set_cons_succ, List.set_cons_zero]
            refine any1H 2 (by kernel_rfl) rfl (fun K hK => ?_)
            go_wp2_with (first | ((with_reducible refine gate_dst (N := 44) rfl ?_); go_must (refine M.out.ev_ldw 1 _ _ rfl rfl rfl Tryz.underlying44 rfl (by first | exact sz44 | (rw [S1.out]; exact sz44) | (rw [S2.out]; exact sz44) | (rw [S3.out]; exact sz44)) rfl ?_)) | (go_at_call 57; go_must (refine (SCE.out _ _ _ _ (M.out.blk 0 rfl) (M.out.slof 3 rfl)).mono ?_); rintro e w_ ⟨rfl, N_⟩; have m := M.out.join N_; clear N_; simp only [List.cons_append, List.nil_append, List.append_nil] at m; have M := Lib.hid m; clear m))
            refine onward_normal (hK _ _ ⟨(by first | exact M.out | exact M.out.take 2), ?_⟩)
            clear hK K
            try simp only [Act.put, List.getElem_toArray, List.getElem_cons_succ, List.getElem_cons_zero, List.setIfInBounds_toArray, List.set_cons_succ, List.set_cons_zero]
            apply takeH (i := 4) 45 rfl (by kernel_rfl) (by kernel_rfl) (by kernel_rfl) (fun _ _ _ h => h) rfl (by first | exact M.out | exact M.out.take 2)
            case' hy =>
              refine Or.inl ⟨by first | rfl | (go_simp; done), ?_⟩
              intro w hS
              clear hS
              go_simp
              try with_reducible rfl
            try simp only [Act.put, List.getElem_toArray, List.getElem_cons_succ, List.getElem_cons_zero, List.setIfInBounds_toArray, List.set_cons_succ, List.set_cons_zero]
            refine wpAnyH_done (by kernel_rfl) ?_ _
            have m := M.out.only [0, 1, 2] (K := [.blk _ _ _, .blk _ _ _, .row _ _ _ _ _]) rfl (by decide)
            clear M
            have M := Lib.hid m
            clear m
            go_wp2_with (first
              | ((with_reducible refine gate_dst (N := 48) rfl ?_); go_must (refine M.out.ev_bs1 elem_int64 rfl _ rfl #[.int .i64 k] rfl rfl (by decide) ?_); intro g48 w48 m; simp only [List.cons_append, List.nil_append] at m; have M := Lib.hid m; clear m)
              | ((with_reducible refine gate_dst (N := 49) rfl ?_); go_must (refine M.out.ev_append1 2 3 elem_int64 rfl _ _ rfl rfl rfl rfl rfl rfl (by simp [Value.oneCell']) (by omega) (by decide) ?_); intro v49 w49 m; simp only [List.set_cons_succ, List.set_cons_zero] at m; have M := Lib.hid m; clear m)
              )
            refine ⟨⟨k + 1, by omega, by go_num, ?_⟩, by simp [intOf]; omega⟩
            have m := M.out.take 3
            rw [HU.out, HQ.out]
            simpa [flat_append, flat, one64, nat64] using m
      · obtain rfl : k = xs.length := by omega
        go_wp2
        obtain ⟨B, cB, rfl, hcB, _⟩ := M.out.row_slice 2 rfl
        go_ret2
        have m := M.out.only [2] (K := [_]) rfl (by decide)
        simp only [uselessRes, HD.out, if_true]
        exact ⟨B, cB, rfl, hcB, m⟩
  · have HD := Lib.hid hd
    have hdd : (safeCode F xs least != 0) = true := by simp [hd]
    clear hd
    go_enter Tryz.func27, Tryz.ntmps27
    go_wp2_with (first
      | ((with_reducible refine gate_dst (N := 3) rfl ?_); go_must (refine M.out.ev_new rfl (by first | (go_simp; done) | (go_simp; rfl)) ?_); intro g3 w3 m; simp only [List.cons_append, List.nil_append] at m; have M := Lib.hid m; clear m)
      | ((with_reducible refine gate_dst (N := 9) rfl ?_); go_must (refine M.out.ev_new rfl (by first | (go_simp; done) | (go_simp; rfl)) ?_); intro g9 w9 m; simp only [List.cons_append, List.nil_append] at m; have M := Lib.hid m; clear m)
      | ((with_reducible refine gate_store (x := .tmp 9) rfl ?_); go_must (refine M.out.ev_stw 1 _ _ _ rfl rfl rfl rfl _ rfl (by first | rfl | (simp only [S1.out]; rfl) | (simp only [S1.out, S2.out]; rfl) | (simp only [S3.out]; rfl) | (simp only [S1.out, S2.out, S3.out]; rfl)) (by first | exact sz44 | (rw [S1.out]; exact sz44) | (rw [S2.out]; exact sz44) | (rw [S3.out]; exact sz44)) (by first | exact ints_one _ _ | exact Fld.one _ | exact O1.out | rfl | (simp [Value.oneCell']; done)) rfl ?_); intro wn m; simp only [List.set_cons_succ, List.set_cons_zero, List.setIfInBounds_toArray] at m; have M := Lib.hid m; clear m)
      | ((with_reducible refine gate_dst (N := 44) rfl ?_); go_must (refine M.out.ev_ldw 1 _ _ rfl rfl rfl Tryz.underlying44 rfl (by first | exact sz44 | (rw [S1.out]; exact sz44) | (rw [S2.out]; exact sz44) | (rw [S3.out]; exact sz44)) rfl ?_))
      | (go_at_call 56; go_must (refine (l03Power_any _ _).mono ?_); rintro e w_ ⟨rfl, rfl⟩)
      | (go_at_call 49; go_must (refine (l03Asked_any _ F HF.out A n xs HX.out hm _ _ (M.out.blk 0 rfl) (M.out.sl HS.out)).mono ?_); rintro e w_ ⟨rfl, N_⟩; have m := M.out.join N_; clear N_; simp only [List.cons_append, List.nil_append, List.append_nil] at m; have M := Lib.hid m; clear m; rw [HSC.out])
      | ((with_reducible refine gate_dst (N := 19) rfl ?_); go_must (refine M.out.ev_bs0 elem_int64 rfl rfl ?_); intro g19 w19 m; simp only [List.cons_append, List.nil_append] at m; have M := Lib.hid m; clear m)
      )
    go_ret2
    have m := M.out.only [1] (K := [_]) rfl (by decide)
    simp only [uselessRes, if_neg HD.out]
    exact ⟨_, 0, rfl, Nat.le_refl _, m⟩
end Go.Proofs.YtoacnfofijikmaaGreatDoor
