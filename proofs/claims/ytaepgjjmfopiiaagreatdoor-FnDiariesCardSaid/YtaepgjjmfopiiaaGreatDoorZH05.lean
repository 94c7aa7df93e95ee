/- Texts of a proof, laid together: Diary2, Replay. -/
import Derived.Test.YtaepgjjmfopiiaaGreatDoorZH03
namespace Go.Proofs.YtaepgjjmfopiiaaGreatDoor
set_option linter.unusedSimpArgs false
set_option linter.unusedVariables false
open Go.RowKit
attribute [local go_sem] cell?_mk frozen?_mk
set_option maxRecDepth 100000 in
set_option maxHeartbeats 2000000 in
theorem l07Apply_any (b : Nat) (F : Fld) (hF : F.ok) (hs : ∀ k, 0 ≤ F.seed k ∧ F.seed k ≤ 1000) (x : Entry) (hx : x.ok) (w : World) (hb : Blk w b 29 F.cells) :
    Calls Tryz.prog 60 #[.pointer (some ⟨b, 0, none⟩), .agg x.vals.toArray] w (Made F x b w) := by
  have M := Lib.hid (Mem.start w)
  have HB := Lib.hid hb
  have HF := Lib.hid hF
  have HX := Lib.hid hx
  have HS := Lib.hid hs
  clear hb hF hs
  cases hp : x.plain
  · have HP := Lib.hid hp
    have hcode : F.code x = 2 := by simp [Fld.code, hp]
    have HC := Lib.hid hcode
    have HA := Lib.hid (show F.after x = F by simp [Fld.after, hcode])
    clear hp hcode hx
    obtain ⟨a, c, d⟩ := x
    go_enter Tryz.func60, Tryz.ntmps60
    simp only [Entry.vals]
    go_wp2_with (first
      | ((with_reducible refine gate_dst (N := 3) rfl ?_); go_must (refine M.out.ev_new rfl (by first | (go_simp; done) | (go_simp; rfl)) ?_); intro g3 w3 m; simp only [List.cons_append, List.nil_append] at m; have M := Lib.hid m; clear m; try have q0_1 := M.out.cell (j := 1) 0 rfl (by first | assumption | rfl); try have q0_2 := M.out.cell (j := 2) 0 rfl (by first | assumption | rfl))
      | ((with_reducible refine gate_dst (N := 6) rfl ?_); go_must (refine M.out.ev_ldw 0 _ _ rfl rfl rfl Tryz.underlying45 rfl (by first | exact sz45 | (rw [S1.out]; exact sz45) | (rw [S2.out]; exact sz45) | (rw [S3.out]; exact sz45)) rfl ?_))
      | ((with_reducible refine gate_dst (N := 19) rfl ?_); go_must (refine M.out.ev_ld 0 _ _ rfl rfl rfl Tryz.underlying26 rfl rfl (by first | assumption | rfl) ?_))
      | ((with_reducible refine gate_dst (N := 41) rfl ?_); go_must (refine M.out.ev_ld 0 _ _ rfl rfl rfl Tryz.underlying26 rfl rfl (by first | assumption | rfl) ?_))
      | ((with_reducible refine gate_dst (N := 49) rfl ?_); go_must (refine M.out.ev_ld 0 _ _ rfl rfl rfl Tryz.underlying24 rfl rfl (by first | assumption | rfl) ?_))
      | ((with_reducible refine gate_dst (N := 62) rfl ?_); go_must (refine M.out.ev_ld 0 _ _ rfl rfl rfl Tryz.underlying24 rfl rfl (by first | assumption | rfl) ?_))
      | ((with_reducible refine gate_dst (N := 66) rfl ?_); go_must (refine M.out.ev_ld 0 _ _ rfl rfl rfl Tryz.underlying26 rfl rfl (by first | assumption | rfl) ?_))
      | ((with_reducible refine gate_dst (N := 72) rfl ?_); go_must (refine M.out.ev_ld 0 _ _ rfl rfl rfl Tryz.underlying26 rfl rfl (by first | assumption | rfl) ?_))
      | ((with_reducible refine gate_dst (N := 80) rfl ?_); go_must (refine M.out.ev_ld 0 _ _ rfl rfl rfl Tryz.underlying26 rfl rfl (by first | assumption | rfl) ?_))
      | ((with_reducible refine gate_dst (N := 27) rfl ?_); go_must (refine M.out.ev_ld 0 _ _ rfl rfl rfl Tryz.underlying26 rfl rfl (by first | assumption | rfl) ?_))
      | ((with_reducible refine gate_dst (N := 33) rfl ?_); go_must (refine M.out.ev_ld 0 _ _ rfl rfl rfl Tryz.underlying26 rfl rfl (by first | assumption | rfl) ?_))
      | (go_at_call 70; go_must (refine (l07Entry_any ⟨a, c, d⟩ HX.out _).mono ?_); rintro e w_ ⟨rfl, N_⟩; rw [HP.out]; have m := M.out.join N_; clear N_; simp only [List.append_nil] at m; have M := Lib.hid m; clear m))
    go_ret
    exact ⟨ret_int HC.out.symm, by rw [HA.out]; simpa only [World.drewN_drewN] using M.out.arg HB.out, grown_below (by simpa only [World.drewN_drewN] using M.out.below)⟩
  have HP := Lib.hid hp
  cases hh : F.has x.cell
  · have HH := Lib.hid hh
    have hcode : F.code x = 2 := by simp [Fld.code, hp, hh]
    have HC := Lib.hid hcode
    have HA := Lib.hid (show F.after x = F by simp [Fld.after, hcode])
    clear hp hcode hx hh
    obtain ⟨a, c, d⟩ := x
    have bb := HX.out.b
    simp only at bb
    have b0 := bb.1
    have b1 := bb.2
    clear bb
    go_enter Tryz.func60, Tryz.ntmps60
    simp only [Entry.vals]
    go_wp2_with (first
      | ((with_reducible refine gate_dst (N := 3) rfl ?_); go_must (refine M.out.ev_new rfl (by first | (go_simp; done) | (go_simp; rfl)) ?_); intro g3 w3 m; simp only [List.cons_append, List.nil_append] at m; have M := Lib.hid m; clear m; try have q0_1 := M.out.cell (j := 1) 0 rfl (by first | assumption | rfl); try have q0_2 := M.out.cell (j := 2) 0 rfl (by first | assumption | rfl))
      | ((with_reducible refine gate_dst (N := 6) rfl ?_); go_must (refine M.out.ev_ldw 0 _ _ rfl rfl rfl Tryz.underlying45 rfl (by first | exact sz45 | (rw [S1.out]; exact sz45) | (rw [S2.out]; exact sz45) | (rw [S3.out]; exact sz45)) rfl ?_))
      | ((with_reducible refine gate_dst (N := 19) rfl ?_); go_must (refine M.out.ev_ld 0 _ _ rfl rfl rfl Tryz.underlying26 rfl rfl (by first | assumption | rfl) ?_))
      | ((with_reducible refine gate_dst (N := 41) rfl ?_); go_must (refine M.out.ev_ld 0 _ _ rfl rfl rfl Tryz.underlying26 rfl rfl (by first | assumption | rfl) ?_))
      | ((with_reducible refine gate_dst (N := 49) rfl ?_); go_must (refine M.out.ev_ld 0 _ _ rfl rfl rfl Tryz.underlying24 rfl rfl (by first | assumption | rfl) ?_))
      | ((with_reducible refine gate_dst (N := 62) rfl ?_); go_must (refine M.out.ev_ld 0 _ _ rfl rfl rfl Tryz.underlying24 rfl rfl (by first | assumption | rfl) ?_))
      | ((with_reducible refine gate_dst (N := 66) rfl ?_); go_must (refine M.out.ev_ld 0 _ _ rfl rfl rfl Tryz.underlying26 rfl rfl (by first | assumption | rfl) ?_))
      | ((with_reducible refine gate_dst (N := 72) rfl ?_); go_must (refine M.out.ev_ld 0 _ _ rfl rfl rfl Tryz.underlying26 rfl rfl (by first | assumption | rfl) ?_))
      | ((with_reducible refine gate_dst (N := 80) rfl ?_); go_must (refine M.out.ev_ld 0 _ _ rfl rfl rfl Tryz.underlying26 rfl rfl (by first | assumption | rfl) ?_))
      | ((with_reducible refine gate_dst (N := 27) rfl ?_); go_must (refine M.out.ev_ld 0 _ _ rfl rfl rfl Tryz.underlying26 rfl rfl (by first | assumption | rfl) ?_))
      | ((with_reducible refine gate_dst (N := 33) rfl ?_); go_must (refine M.out.ev_ld 0 _ _ rfl rfl rfl Tryz.underlying26 rfl rfl (by first | assumption | rfl) ?_))
      | (go_at_call 70; go_must (refine (l07Entry_any ⟨a, c, d⟩ HX.out _).mono ?_); rintro e w_ ⟨rfl, N_⟩; rw [HP.out]; have m := M.out.join N_; clear N_; simp only [List.append_nil] at m; have M := Lib.hid m; clear m; have q0_1 := M.out.cell (j := 1) 0 rfl rfl)
      | (go_at_call 53; go_must (refine (l01Is_any b F HF.out c _ (M.out.arg HB.out)).mono ?_); rintro e w_ ⟨rfl, rfl⟩; rw [HH.out]))
    go_ret
    exact ⟨ret_int HC.out.symm, by rw [HA.out]; simpa only [World.drewN_drewN] using M.out.arg HB.out, grown_below (by simpa only [World.drewN_drewN] using M.out.below)⟩
  have HH := Lib.hid hh
  obtain ⟨a, c, d⟩ := x
  obtain ⟨⟨c0, c1⟩, _⟩ := Fld.has_iff.1 hh
  simp only at c0 c1
  obtain ⟨k, rfl⟩ : ∃ k : Nat, c = k := ⟨c.toNat, by omega⟩
  have hk : k < 100 := by omega
  have hpl : (0 ≤ a ∧ a ≤ 3) ∧ 1 ≤ d ∧ d ≤ 1000 := by
    simp only [Entry.plain, Bool.and_eq_true, inB_iff] at hp
    exact ⟨hp.1, hp.2.2⟩
  have d0 := hpl.1.1
  have d1 := hpl.1.2
  have d2 := hpl.2.1
  have d3 := hpl.2.2
  have hk1 := HB.out.cellv (Fld.cellK HF.out.toLen hk)
  have hk2 := HB.out.cellv (Fld.cellS HF.out.toLen hk)
  have s0 := (HS.out k).1
  have s1 := (HS.out k).2
  have k0 := (HF.out.kb k).1
  have k1 := (HF.out.kb k).2
  have i0 : (0 : Int) ≤ (k : Int) := by omega
  have i1 : (k : Int) < 100 := by omega
  have HK := Lib.hid hk
  by_cases hkd : F.kind k ≠ 0
  · have hcode : F.code ⟨a, k, d⟩ = 4 := by simp [Fld.code, hp, hh, hkd]
    have HC := Lib.hid hcode
    have HA := Lib.hid (show F.after ⟨a, k, d⟩ = F by simp [Fld.after, hcode])
    clear hp hcode hx hh hpl
    go_enter Tryz.func60, Tryz.ntmps60
    simp only [Entry.vals]
    go_wp2_with (first
      | ((with_reducible refine gate_dst (N := 3) rfl ?_); go_must (refine M.out.ev_new rfl (by first | (go_simp; done) | (go_simp; rfl)) ?_); intro g3 w3 m; simp only [List.cons_append, List.nil_append] at m; have M := Lib.hid m; clear m; try have q0_1 := M.out.cell (j := 1) 0 rfl (by first | assumption | rfl); try have q0_2 := M.out.cell (j := 2) 0 rfl (by first | assumption | rfl))
      | ((with_reducible refine gate_dst (N := 6) rfl ?_); go_must (refine M.out.ev_ldw 0 _ _ rfl rfl rfl Tryz.underlying45 rfl (by first | exact sz45 | (rw [S1.out]; exact sz45) | (rw [S2.out]; exact sz45) | (rw [S3.out]; exact sz45)) rfl ?_))
      | ((with_reducible refine gate_dst (N := 19) rfl ?_); go_must (refine M.out.ev_ld 0 _ _ rfl rfl rfl Tryz.underlying26 rfl rfl (by first | assumption | rfl) ?_))
      | ((with_reducible refine gate_dst (N := 41) rfl ?_); go_must (refine M.out.ev_ld 0 _ _ rfl rfl rfl Tryz.underlying26 rfl rfl (by first | assumption | rfl) ?_))
      | ((with_reducible refine gate_dst (N := 49) rfl ?_); go_must (refine M.out.ev_ld 0 _ _ rfl rfl rfl Tryz.underlying24 rfl rfl (by first | assumption | rfl) ?_))
      | ((with_reducible refine gate_dst (N := 62) rfl ?_); go_must (refine M.out.ev_ld 0 _ _ rfl rfl rfl Tryz.underlying24 rfl rfl (by first | assumption | rfl) ?_))
      | ((with_reducible refine gate_dst (N := 66) rfl ?_); go_must (refine M.out.ev_ld 0 _ _ rfl rfl rfl Tryz.underlying26 rfl rfl (by first | assumption | rfl) ?_))
      | ((with_reducible refine gate_dst (N := 72) rfl ?_); go_must (refine M.out.ev_ld 0 _ _ rfl rfl rfl Tryz.underlying26 rfl rfl (by first | assumption | rfl) ?_))
      | ((with_reducible refine gate_dst (N := 80) rfl ?_); go_must (refine M.out.ev_ld 0 _ _ rfl rfl rfl Tryz.underlying26 rfl rfl (by first | assumption | rfl) ?_))
      | ((with_reducible refine gate_dst (N := 27) rfl ?_); go_must (refine M.out.ev_ld 0 _ _ rfl rfl rfl Tryz.underlying26 rfl rfl (by first | assumption | rfl) ?_))
      | ((with_reducible refine gate_dst (N := 33) rfl ?_); go_must (refine M.out.ev_ld 0 _ _ rfl rfl rfl Tryz.underlying26 rfl rfl (by first | assumption | rfl) ?_))
      | (go_at_call 70; go_must (refine (l07Entry_any ⟨a, k, d⟩ HX.out _).mono ?_); rintro e w_ ⟨rfl, N_⟩; rw [HP.out]; have m := M.out.join N_; clear N_; simp only [List.append_nil] at m; have M := Lib.hid m; clear m; have q0_1 := M.out.cell (j := 1) 0 rfl rfl; have r1 := M.out.argcell hk1; have r2 := M.out.argcell hk2)
      | (go_at_call 53; go_must (refine (l01Is_any b F HF.out k _ (M.out.arg HB.out)).mono ?_); rintro e w_ ⟨rfl, rfl⟩; rw [HH.out]))
    go_quiet (fail)
    have M := Lib.hid (M.out.drewN nq)
    try simp only [World.drewN_drewN] at M
    go_wp2
    go_quiet (fail)
    have M := Lib.hid (M.out.drewN nq)
    try simp only [World.drewN_drewN] at M
    go_wp2
    go_ret
    exact ⟨ret_int HC.out.symm, by rw [HA.out]; simpa only [World.drewN_drewN] using M.out.arg HB.out, grown_below (by simpa only [World.drewN_drewN] using M.out.below)⟩
  have hkd : F.kind k = 0 := by omega
  rw [hkd] at hk1 k0 k1
  by_cases ha : a = 0
  · subst ha
    by_cases hq : 1000 < F.seed k + d
    · have hcode : F.code ⟨0, k, d⟩ = 3 := by simp [Fld.code, hp, hh, hkd, hq]
      have HC := Lib.hid hcode
      have HA := Lib.hid (show F.after ⟨0, k, d⟩ = F by simp [Fld.after, hcode])
      have HSD := Lib.hid (show inB (F.seed k + d) 0 1000 = false by rw [inB_not]; omega)
      clear hp hcode hx hh hpl hkd
      go_enter Tryz.func60, Tryz.ntmps60
      simp only [Entry.vals]
      go_wp2_with (first
        | ((with_reducible refine gate_dst (N := 3) rfl ?_); go_must (refine M.out.ev_new rfl (by first | (go_simp; done) | (go_simp; rfl)) ?_); intro g3 w3 m; simp only [List.cons_append, List.nil_append] at m; have M := Lib.hid m; clear m; try have q0_1 := M.out.cell (j := 1) 0 rfl (by first | assumption | rfl); try have q0_2 := M.out.cell (j := 2) 0 rfl (by first | assumption | rfl))
        | ((with_reducible refine gate_dst (N := 6) rfl ?_); go_must (refine M.out.ev_ldw 0 _ _ rfl rfl rfl Tryz.underlying45 rfl (by first | exact sz45 | (rw [S1.out]; exact sz45) | (rw [S2.out]; exact sz45) | (rw [S3.out]; exact sz45)) rfl ?_))
        | ((with_reducible refine gate_dst (N := 19) rfl ?_); go_must (refine M.out.ev_ld 0 _ _ rfl rfl rfl Tryz.underlying26 rfl rfl (by first | assumption | rfl) ?_))
        | ((with_reducible refine gate_dst (N := 41) rfl ?_); go_must (refine M.out.ev_ld 0 _ _ rfl rfl rfl Tryz.underlying26 rfl rfl (by first | assumption | rfl) ?_))
        | ((with_reducible refine gate_dst (N := 49) rfl ?_); go_must (refine M.out.ev_ld 0 _ _ rfl rfl rfl Tryz.underlying24 rfl rfl (by first | assumption | rfl) ?_))
        | ((with_reducible refine gate_dst (N := 62) rfl ?_); go_must (refine M.out.ev_ld 0 _ _ rfl rfl rfl Tryz.underlying24 rfl rfl (by first | assumption | rfl) ?_))
        | ((with_reducible refine gate_dst (N := 66) rfl ?_); go_must (refine M.out.ev_ld 0 _ _ rfl rfl rfl Tryz.underlying26 rfl rfl (by first | assumption | rfl) ?_))
        | ((with_reducible refine gate_dst (N := 72) rfl ?_); go_must (refine M.out.ev_ld 0 _ _ rfl rfl rfl Tryz.underlying26 rfl rfl (by first | assumption | rfl) ?_))
        | ((with_reducible refine gate_dst (N := 80) rfl ?_); go_must (refine M.out.ev_ld 0 _ _ rfl rfl rfl Tryz.underlying26 rfl rfl (by first | assumption | rfl) ?_))
        | ((with_reducible refine gate_dst (N := 27) rfl ?_); go_must (refine M.out.ev_ld 0 _ _ rfl rfl rfl Tryz.underlying26 rfl rfl (by first | assumption | rfl) ?_))
        | ((with_reducible refine gate_dst (N := 33) rfl ?_); go_must (refine M.out.ev_ld 0 _ _ rfl rfl rfl Tryz.underlying26 rfl rfl (by first | assumption | rfl) ?_))
        | (go_at_call 70; go_must (refine (l07Entry_any ⟨0, k, d⟩ HX.out _).mono ?_); rintro e w_ ⟨rfl, N_⟩; rw [HP.out]; have m := M.out.join N_; clear N_; simp only [List.append_nil] at m; have M := Lib.hid m; clear m; have q0_0 := M.out.cell (j := 0) 0 rfl rfl; have q0_1 := M.out.cell (j := 1) 0 rfl rfl; have q0_2 := M.out.cell (j := 2) 0 rfl rfl; have r1 := M.out.argcell hk1; have r2 := M.out.argcell hk2)
        | (go_at_call 53; go_must (refine (l01Is_any b F HF.out k _ (M.out.arg HB.out)).mono ?_); rintro e w_ ⟨rfl, rfl⟩; rw [HH.out]))
      go_quiet (fail)
      have M := Lib.hid (M.out.drewN nq)
      try simp only [World.drewN_drewN] at M
      go_wp2
      go_quiet (fail)
      have M := Lib.hid (M.out.drewN nq)
      try simp only [World.drewN_drewN] at M
      have q0_0 := M.out.cell (j := 0) 0 rfl rfl
      have q0_2 := M.out.cell (j := 2) 0 rfl rfl
      go_wp2_with (first
        | ((with_reducible refine gate_dst (N := 3) rfl ?_); go_must (refine M.out.ev_new rfl (by first | (go_simp; done) | (go_simp; rfl)) ?_); intro g3 w3 m; simp only [List.cons_append, List.nil_append] at m; have M := Lib.hid m; clear m; try have q0_1 := M.out.cell (j := 1) 0 rfl (by first | assumption | rfl); try have q0_2 := M.out.cell (j := 2) 0 rfl (by first | assumption | rfl))
        | ((with_reducible refine gate_dst (N := 6) rfl ?_); go_must (refine M.out.ev_ldw 0 _ _ rfl rfl rfl Tryz.underlying45 rfl (by first | exact sz45 | (rw [S1.out]; exact sz45) | (rw [S2.out]; exact sz45) | (rw [S3.out]; exact sz45)) rfl ?_))
        | ((with_reducible refine gate_dst (N := 19) rfl ?_); go_must (refine M.out.ev_ld 0 _ _ rfl rfl rfl Tryz.underlying26 rfl rfl (by first | assumption | rfl) ?_))
        | ((with_reducible refine gate_dst (N := 41) rfl ?_); go_must (refine M.out.ev_ld 0 _ _ rfl rfl rfl Tryz.underlying26 rfl rfl (by first | assumption | rfl) ?_))
        | ((with_reducible refine gate_dst (N := 49) rfl ?_); go_must (refine M.out.ev_ld 0 _ _ rfl rfl rfl Tryz.underlying24 rfl rfl (by first | assumption | rfl) ?_))
        | ((with_reducible refine gate_dst (N := 62) rfl ?_); go_must (refine M.out.ev_ld 0 _ _ rfl rfl rfl Tryz.underlying24 rfl rfl (by first | assumption | rfl) ?_))
        | ((with_reducible refine gate_dst (N := 66) rfl ?_); go_must (refine M.out.ev_ld 0 _ _ rfl rfl rfl Tryz.underlying26 rfl rfl (by first | assumption | rfl) ?_))
        | ((with_reducible refine gate_dst (N := 72) rfl ?_); go_must (refine M.out.ev_ld 0 _ _ rfl rfl rfl Tryz.underlying26 rfl rfl (by first | assumption | rfl) ?_))
        | ((with_reducible refine gate_dst (N := 80) rfl ?_); go_must (refine M.out.ev_ld 0 _ _ rfl rfl rfl Tryz.underlying26 rfl rfl (by first | assumption | rfl) ?_))
        | ((with_reducible refine gate_dst (N := 27) rfl ?_); go_must (refine M.out.ev_ld 0 _ _ rfl rfl rfl Tryz.underlying26 rfl rfl (by first | assumption | rfl) ?_))
        | ((with_reducible refine gate_dst (N := 33) rfl ?_); go_must (refine M.out.ev_ld 0 _ _ rfl rfl rfl Tryz.underlying26 rfl rfl (by first | assumption | rfl) ?_))
        | (go_at_call 52; go_must (refine (l01Seeds_any _ _).mono ?_); rintro e w_ ⟨rfl, rfl⟩; rw [HSD.out]))
      go_ret
      exact ⟨ret_int HC.out.symm, by rw [HA.out]; simpa only [World.drewN_drewN] using M.out.arg HB.out, grown_below (by simpa only [World.drewN_drewN] using M.out.below)⟩
    · have hcode : F.code ⟨0, k, d⟩ = 0 := by simp [Fld.code, hp, hh, hkd, hq]
      have HC := Lib.hid hcode
      have HA := Lib.hid (show F.after ⟨0, k, d⟩ = F.withSeed k (F.seed k + d) by simp [Fld.after, hcode, Fld.made])
      have HSD := Lib.hid (show inB (F.seed k + d) 0 1000 = true by rw [inB_iff]; omega)
      clear hp hcode hx hh hpl hkd
      go_enter Tryz.func60, Tryz.ntmps60
      simp only [Entry.vals]
      go_wp2_with (first
        | ((with_reducible refine gate_dst (N := 3) rfl ?_); go_must (refine M.out.ev_new rfl (by first | (go_simp; done) | (go_simp; rfl)) ?_); intro g3 w3 m; simp only [List.cons_append, List.nil_append] at m; have M := Lib.hid m; clear m; try have q0_1 := M.out.cell (j := 1) 0 rfl (by first | assumption | rfl); try have q0_2 := M.out.cell (j := 2) 0 rfl (by first | assumption | rfl))
        | ((with_reducible refine gate_dst (N := 6) rfl ?_); go_must (refine M.out.ev_ldw 0 _ _ rfl rfl rfl Tryz.underlying45 rfl (by first | exact sz45 | (rw [S1.out]; exact sz45) | (rw [S2.out]; exact sz45) | (rw [S3.out]; exact sz45)) rfl ?_))
        | ((with_reducible refine gate_dst (N := 19) rfl ?_); go_must (refine M.out.ev_ld 0 _ _ rfl rfl rfl Tryz.underlying26 rfl rfl (by first | assumption | rfl) ?_))
        | ((with_reducible refine gate_dst (N := 41) rfl ?_); go_must (refine M.out.ev_ld 0 _ _ rfl rfl rfl Tryz.underlying26 rfl rfl (by first | assumption | rfl) ?_))
        | ((with_reducible refine gate_dst (N := 49) rfl ?_); go_must (refine M.out.ev_ld 0 _ _ rfl rfl rfl Tryz.underlying24 rfl rfl (by first | assumption | rfl) ?_))
        | ((with_reducible refine gate_dst (N := 62) rfl ?_); go_must (refine M.out.ev_ld 0 _ _ rfl rfl rfl Tryz.underlying24 rfl rfl (by first | assumption | rfl) ?_))
        | ((with_reducible refine gate_dst (N := 66) rfl ?_); go_must (refine M.out.ev_ld 0 _ _ rfl rfl rfl Tryz.underlying26 rfl rfl (by first | assumption | rfl) ?_))
        | ((with_reducible refine gate_dst (N := 72) rfl ?_); go_must (refine M.out.ev_ld 0 _ _ rfl rfl rfl Tryz.underlying26 rfl rfl (by first | assumption | rfl) ?_))
        | ((with_reducible refine gate_dst (N := 80) rfl ?_); go_must (refine M.out.ev_ld 0 _ _ rfl rfl rfl Tryz.underlying26 rfl rfl (by first | assumption | rfl) ?_))
        | ((with_reducible refine gate_dst (N := 27) rfl ?_); go_must (refine M.out.ev_ld 0 _ _ rfl rfl rfl Tryz.underlying26 rfl rfl (by first | assumption | rfl) ?_))
        | ((with_reducible refine gate_dst (N := 33) rfl ?_); go_must (refine M.out.ev_ld 0 _ _ rfl rfl rfl Tryz.underlying26 rfl rfl (by first | assumption | rfl) ?_))
        | (go_at_call 70; go_must (refine (l07Entry_any ⟨0, k, d⟩ HX.out _).mono ?_); rintro e w_ ⟨rfl, N_⟩; rw [HP.out]; have m := M.out.join N_; clear N_; simp only [List.append_nil] at m; have M := Lib.hid m; clear m; have q0_0 := M.out.cell (j := 0) 0 rfl rfl; have q0_1 := M.out.cell (j := 1) 0 rfl rfl; have q0_2 := M.out.cell (j := 2) 0 rfl rfl; have r1 := M.out.argcell hk1; have r2 := M.out.argcell hk2)
        | (go_at_call 53; go_must (refine (l01Is_any b F HF.out k _ (M.out.arg HB.out)).mono ?_); rintro e w_ ⟨rfl, rfl⟩; rw [HH.out]))
      go_quiet (fail)
      have M := Lib.hid (M.out.drewN nq)
      try simp only [World.drewN_drewN] at M
      go_wp2
      go_quiet (fail)
      have M := Lib.hid (M.out.drewN nq)
      try simp only [World.drewN_drewN] at M
      have q0_0 := M.out.cell (j := 0) 0 rfl rfl
      have q0_2 := M.out.cell (j := 2) 0 rfl rfl
      go_wp2_with (first
        | ((with_reducible refine gate_dst (N := 3) rfl ?_); go_must (refine M.out.ev_new rfl (by first | (go_simp; done) | (go_simp; rfl)) ?_); intro g3 w3 m; simp only [List.cons_append, List.nil_append] at m; have M := Lib.hid m; clear m; try have q0_1 := M.out.cell (j := 1) 0 rfl (by first | assumption | rfl); try have q0_2 := M.out.cell (j := 2) 0 rfl (by first | assumption | rfl))
        | ((with_reducible refine gate_dst (N := 6) rfl ?_); go_must (refine M.out.ev_ldw 0 _ _ rfl rfl rfl Tryz.underlying45 rfl (by first | exact sz45 | (rw [S1.out]; exact sz45) | (rw [S2.out]; exact sz45) | (rw [S3.out]; exact sz45)) rfl ?_))
        | ((with_reducible refine gate_dst (N := 19) rfl ?_); go_must (refine M.out.ev_ld 0 _ _ rfl rfl rfl Tryz.underlying26 rfl rfl (by first | assumption | rfl) ?_))
        | ((with_reducible refine gate_dst (N := 41) rfl ?_); go_must (refine M.out.ev_ld 0 _ _ rfl rfl rfl Tryz.underlying26 rfl rfl (by first | assumption | rfl) ?_))
        | ((with_reducible refine gate_dst (N := 49) rfl ?_); go_must (refine M.out.ev_ld 0 _ _ rfl rfl rfl Tryz.underlying24 rfl rfl (by first | assumption | rfl) ?_))
        | ((with_reducible refine gate_dst (N := 62) rfl ?_); go_must (refine M.out.ev_ld 0 _ _ rfl rfl rfl Tryz.underlying24 rfl rfl (by first | assumption | rfl) ?_))
        | ((with_reducible refine gate_dst (N := 66) rfl ?_); go_must (refine M.out.ev_ld 0 _ _ rfl rfl rfl Tryz.underlying26 rfl rfl (by first | assumption | rfl) ?_))
        | ((with_reducible refine gate_dst (N := 72) rfl ?_); go_must (refine M.out.ev_ld 0 _ _ rfl rfl rfl Tryz.underlying26 rfl rfl (by first | assumption | rfl) ?_))
        | ((with_reducible refine gate_dst (N := 80) rfl ?_); go_must (refine M.out.ev_ld 0 _ _ rfl rfl rfl Tryz.underlying26 rfl rfl (by first | assumption | rfl) ?_))
        | ((with_reducible refine gate_dst (N := 27) rfl ?_); go_must (refine M.out.ev_ld 0 _ _ rfl rfl rfl Tryz.underlying26 rfl rfl (by first | assumption | rfl) ?_))
        | ((with_reducible refine gate_dst (N := 33) rfl ?_); go_must (refine M.out.ev_ld 0 _ _ rfl rfl rfl Tryz.underlying26 rfl rfl (by first | assumption | rfl) ?_))
        | (go_at_call 52; go_must (refine (l01Seeds_any _ _).mono ?_); rintro e w_ ⟨rfl, rfl⟩; rw [HSD.out]))
      go_still_tail 13, (by kernel_rfl)
      have B := Lib.hid (M.out.drew.arg HB.out)
      try simp only [World.drewN_drewN] at B
      try simp only [World.drewN_drewN] at M
      refine ev_put 26 (.tmp 76) (.tmp 73) rfl rfl B.out rfl (.int .i16 (IntKind.i16.wrap (F.seed k + d))) rfl (by rw [Fld.size HF.out.toLen]; omega) sz26 rfl rfl ?_
      intro w2 b2 hU
      rw [wrap16 (by omega) (by omega), Fld.setSeed HF.out.toLen] at b2
      have B2 := Lib.hid b2
      clear b2
      go_wp2
      go_ret
      exact ⟨ret_int HC.out.symm, by rw [HA.out]; exact B2.out, grown_upd M.out.drew.below hU⟩
  · have ha1 : (a == 0) = false := beq_eq_false_iff_ne.2 ha
    have HSD := Lib.hid (show True from trivial)
    by_cases hq : F.seed k < d
    · have hcode : F.code ⟨a, k, d⟩ = 8 := by simp [Fld.code, hp, hh, hkd, hq, ha]
      have HC := Lib.hid hcode
      have HA := Lib.hid (show F.after ⟨a, k, d⟩ = F by simp [Fld.after, hcode])
      clear hp hcode hx hh hpl hkd
      go_enter Tryz.func60, Tryz.ntmps60
      simp only [Entry.vals]
      go_wp2_with (first
        | ((with_reducible refine gate_dst (N := 3) rfl ?_); go_must (refine M.out.ev_new rfl (by first | (go_simp; done) | (go_simp; rfl)) ?_); intro g3 w3 m; simp only [List.cons_append, List.nil_append] at m; have M := Lib.hid m; clear m; try have q0_1 := M.out.cell (j := 1) 0 rfl (by first | assumption | rfl); try have q0_2 := M.out.cell (j := 2) 0 rfl (by first | assumption | rfl))
        | ((with_reducible refine gate_dst (N := 6) rfl ?_); go_must (refine M.out.ev_ldw 0 _ _ rfl rfl rfl Tryz.underlying45 rfl (by first | exact sz45 | (rw [S1.out]; exact sz45) | (rw [S2.out]; exact sz45) | (rw [S3.out]; exact sz45)) rfl ?_))
        | ((with_reducible refine gate_dst (N := 19) rfl ?_); go_must (refine M.out.ev_ld 0 _ _ rfl rfl rfl Tryz.underlying26 rfl rfl (by first | assumption | rfl) ?_))
        | ((with_reducible refine gate_dst (N := 41) rfl ?_); go_must (refine M.out.ev_ld 0 _ _ rfl rfl rfl Tryz.underlying26 rfl rfl (by first | assumption | rfl) ?_))
        | ((with_reducible refine gate_dst (N := 49) rfl ?_); go_must (refine M.out.ev_ld 0 _ _ rfl rfl rfl Tryz.underlying24 rfl rfl (by first | assumption | rfl) ?_))
        | ((with_reducible refine gate_dst (N := 62) rfl ?_); go_must (refine M.out.ev_ld 0 _ _ rfl rfl rfl Tryz.underlying24 rfl rfl (by first | assumption | rfl) ?_))
        | ((with_reducible refine gate_dst (N := 66) rfl ?_); go_must (refine M.out.ev_ld 0 _ _ rfl rfl rfl Tryz.underlying26 rfl rfl (by first | assumption | rfl) ?_))
        | ((with_reducible refine gate_dst (N := 72) rfl ?_); go_must (refine M.out.ev_ld 0 _ _ rfl rfl rfl Tryz.underlying26 rfl rfl (by first | assumption | rfl) ?_))
        | ((with_reducible refine gate_dst (N := 80) rfl ?_); go_must (refine M.out.ev_ld 0 _ _ rfl rfl rfl Tryz.underlying26 rfl rfl (by first | assumption | rfl) ?_))
        | ((with_reducible refine gate_dst (N := 27) rfl ?_); go_must (refine M.out.ev_ld 0 _ _ rfl rfl rfl Tryz.underlying26 rfl rfl (by first | assumption | rfl) ?_))
        | ((with_reducible refine gate_dst (N := 33) rfl ?_); go_must (refine M.out.ev_ld 0 _ _ rfl rfl rfl Tryz.underlying26 rfl rfl (by first | assumption | rfl) ?_))
        | (go_at_call 70; go_must (refine (l07Entry_any ⟨a, k, d⟩ HX.out _).mono ?_); rintro e w_ ⟨rfl, N_⟩; rw [HP.out]; have m := M.out.join N_; clear N_; simp only [List.append_nil] at m; have M := Lib.hid m; clear m; have q0_0 := M.out.cell (j := 0) 0 rfl rfl; have q0_1 := M.out.cell (j := 1) 0 rfl rfl; have q0_2 := M.out.cell (j := 2) 0 rfl rfl; have r1 := M.out.argcell hk1; have r2 := M.out.argcell hk2)
        | (go_at_call 53; go_must (refine (l01Is_any b F HF.out k _ (M.out.arg HB.out)).mono ?_); rintro e w_ ⟨rfl, rfl⟩; rw [HH.out]))
      go_quiet (fail)
      have M := Lib.hid (M.out.drewN nq)
      try simp only [World.drewN_drewN] at M
      go_wp2
      go_quiet (fail)
      have M := Lib.hid (M.out.drewN nq)
      try simp only [World.drewN_drewN] at M
      have q0_0 := M.out.cell (j := 0) 0 rfl rfl
      have q0_2 := M.out.cell (j := 2) 0 rfl rfl
      go_wp2_with (first
        | ((with_reducible refine gate_dst (N := 3) rfl ?_); go_must (refine M.out.ev_new rfl (by first | (go_simp; done) | (go_simp; rfl)) ?_); intro g3 w3 m; simp only [List.cons_append, List.nil_append] at m; have M := Lib.hid m; clear m; try have q0_1 := M.out.cell (j := 1) 0 rfl (by first | assumption | rfl); try have q0_2 := M.out.cell (j := 2) 0 rfl (by first | assumption | rfl))
        | ((with_reducible refine gate_dst (N := 6) rfl ?_); go_must (refine M.out.ev_ldw 0 _ _ rfl rfl rfl Tryz.underlying45 rfl (by first | exact sz45 | (rw [S1.out]; exact sz45) | (rw [S2.out]; exact sz45) | (rw [S3.out]; exact sz45)) rfl ?_))
        | ((with_reducible refine gate_dst (N := 19) rfl ?_); go_must (refine M.out.ev_ld 0 _ _ rfl rfl rfl Tryz.underlying26 rfl rfl (by first | assumption | rfl) ?_))
        | ((with_reducible refine gate_dst (N := 41) rfl ?_); go_must (refine M.out.ev_ld 0 _ _ rfl rfl rfl Tryz.underlying26 rfl rfl (by first | assumption | rfl) ?_))
        | ((with_reducible refine gate_dst (N := 49) rfl ?_); go_must (refine M.out.ev_ld 0 _ _ rfl rfl rfl Tryz.underlying24 rfl rfl (by first | assumption | rfl) ?_))
        | ((with_reducible refine gate_dst (N := 62) rfl ?_); go_must (refine M.out.ev_ld 0 _ _ rfl rfl rfl Tryz.underlying24 rfl rfl (by first | assumption | rfl) ?_))
        | ((with_reducible refine gate_dst (N := 66) rfl ?_); go_must (refine M.out.ev_ld 0 _ _ rfl rfl rfl Tryz.underlying26 rfl rfl (by first | assumption | rfl) ?_))
        | ((with_reducible refine gate_dst (N := 72) rfl ?_); go_must (refine M.out.ev_ld 0 _ _ rfl rfl rfl Tryz.underlying26 rfl rfl (by first | assumption | rfl) ?_))
        | ((with_reducible refine gate_dst (N := 80) rfl ?_); go_must (refine M.out.ev_ld 0 _ _ rfl rfl rfl Tryz.underlying26 rfl rfl (by first | assumption | rfl) ?_))
        | ((with_reducible refine gate_dst (N := 27) rfl ?_); go_must (refine M.out.ev_ld 0 _ _ rfl rfl rfl Tryz.underlying26 rfl rfl (by first | assumption | rfl) ?_))
        | ((with_reducible refine gate_dst (N := 33) rfl ?_); go_must (refine M.out.ev_ld 0 _ _ rfl rfl rfl Tryz.underlying26 rfl rfl (by first | assumption | rfl) ?_))
        | (go_at_call 52; go_must (refine (l01Seeds_any _ _).mono ?_); rintro e w_ ⟨rfl, rfl⟩; rw [HSD.out]))
      go_ret
      exact ⟨ret_int HC.out.symm, by rw [HA.out]; simpa only [World.drewN_drewN] using M.out.arg HB.out, grown_below (by simpa only [World.drewN_drewN] using M.out.below)⟩
    · have hcode : F.code ⟨a, k, d⟩ = 0 := by simp [Fld.code, hp, hh, hkd, hq, ha]
      have HC := Lib.hid hcode
      have HA := Lib.hid (show F.after ⟨a, k, d⟩ = F.withSeed k (F.seed k - d) by simp [Fld.after, hcode, Fld.made, ha])
      clear hp hcode hx hh hpl hkd
      go_enter Tryz.func60, Tryz.ntmps60
      simp only [Entry.vals]
      go_wp2_with (first
        | ((with_reducible refine gate_dst (N := 3) rfl ?_); go_must (refine M.out.ev_new rfl (by first | (go_simp; done) | (go_simp; rfl)) ?_); intro g3 w3 m; simp only [List.cons_append, List.nil_append] at m; have M := Lib.hid m; clear m; try have q0_1 := M.out.cell (j := 1) 0 rfl (by first | assumption | rfl); try have q0_2 := M.out.cell (j := 2) 0 rfl (by first | assumption | rfl))
        | ((with_reducible refine gate_dst (N := 6) rfl ?_); go_must (refine M.out.ev_ldw 0 _ _ rfl rfl rfl Tryz.underlying45 rfl (by first | exact sz45 | (rw [S1.out]; exact sz45) | (rw [S2.out]; exact sz45) | (rw [S3.out]; exact sz45)) rfl ?_))
        | ((with_reducible refine gate_dst (N := 19) rfl ?_); go_must (refine M.out.ev_ld 0 _ _ rfl rfl rfl Tryz.underlying26 rfl rfl (by first | assumption | rfl) ?_))
        | ((with_reducible refine gate_dst (N := 41) rfl ?_); go_must (refine M.out.ev_ld 0 _ _ rfl rfl rfl Tryz.underlying26 rfl rfl (by first | assumption | rfl) ?_))
        | ((with_reducible refine gate_dst (N := 49) rfl ?_); go_must (refine M.out.ev_ld 0 _ _ rfl rfl rfl Tryz.underlying24 rfl rfl (by first | assumption | rfl) ?_))
        | ((with_reducible refine gate_dst (N := 62) rfl ?_); go_must (refine M.out.ev_ld 0 _ _ rfl rfl rfl Tryz.underlying24 rfl rfl (by first | assumption | rfl) ?_))
        | ((with_reducible refine gate_dst (N := 66) rfl ?_); go_must (refine M.out.ev_ld 0 _ _ rfl rfl rfl Tryz.underlying26 rfl rfl (by first | assumption | rfl) ?_))
        | ((with_reducible refine gate_dst (N := 72) rfl ?_); go_must (refine M.out.ev_ld 0 _ _ rfl rfl rfl Tryz.underlying26 rfl rfl (by first | assumption | rfl) ?_))
        | ((with_reducible refine gate_dst (N := 80) rfl ?_); go_must (refine M.out.ev_ld 0 _ _ rfl rfl rfl Tryz.underlying26 rfl rfl (by first | assumption | rfl) ?_))
        | ((with_reducible refine gate_dst (N := 27) rfl ?_); go_must (refine M.out.ev_ld 0 _ _ rfl rfl rfl Tryz.underlying26 rfl rfl (by first | assumption | rfl) ?_))
        | ((with_reducible refine gate_dst (N := 33) rfl ?_); go_must (refine M.out.ev_ld 0 _ _ rfl rfl rfl Tryz.underlying26 rfl rfl (by first | assumption | rfl) ?_))
        | (go_at_call 70; go_must (refine (l07Entry_any ⟨a, k, d⟩ HX.out _).mono ?_); rintro e w_ ⟨rfl, N_⟩; rw [HP.out]; have m := M.out.join N_; clear N_; simp only [List.append_nil] at m; have M := Lib.hid m; clear m; have q0_0 := M.out.cell (j := 0) 0 rfl rfl; have q0_1 := M.out.cell (j := 1) 0 rfl rfl; have q0_2 := M.out.cell (j := 2) 0 rfl rfl; have r1 := M.out.argcell hk1; have r2 := M.out.argcell hk2)
        | (go_at_call 53; go_must (refine (l01Is_any b F HF.out k _ (M.out.arg HB.out)).mono ?_); rintro e w_ ⟨rfl, rfl⟩; rw [HH.out]))
      go_quiet (fail)
      have M := Lib.hid (M.out.drewN nq)
      try simp only [World.drewN_drewN] at M
      go_wp2
      go_quiet (fail)
      have M := Lib.hid (M.out.drewN nq)
      try simp only [World.drewN_drewN] at M
      have q0_0 := M.out.cell (j := 0) 0 rfl rfl
      have q0_2 := M.out.cell (j := 2) 0 rfl rfl
      go_wp2_with (first
        | ((with_reducible refine gate_dst (N := 3) rfl ?_); go_must (refine M.out.ev_new rfl (by first | (go_simp; done) | (go_simp; rfl)) ?_); intro g3 w3 m; simp only [List.cons_append, List.nil_append] at m; have M := Lib.hid m; clear m; try have q0_1 := M.out.cell (j := 1) 0 rfl (by first | assumption | rfl); try have q0_2 := M.out.cell (j := 2) 0 rfl (by first | assumption | rfl))
        | ((with_reducible refine gate_dst (N := 6) rfl ?_); go_must (refine M.out.ev_ldw 0 _ _ rfl rfl rfl Tryz.underlying45 rfl (by first | exact sz45 | (rw [S1.out]; exact sz45) | (rw [S2.out]; exact sz45) | (rw [S3.out]; exact sz45)) rfl ?_))
        | ((with_reducible refine gate_dst (N := 19) rfl ?_); go_must (refine M.out.ev_ld 0 _ _ rfl rfl rfl Tryz.underlying26 rfl rfl (by first | assumption | rfl) ?_))
        | ((with_reducible refine gate_dst (N := 41) rfl ?_); go_must (refine M.out.ev_ld 0 _ _ rfl rfl rfl Tryz.underlying26 rfl rfl (by first | assumption | rfl) ?_))
        | ((with_reducible refine gate_dst (N := 49) rfl ?_); go_must (refine M.out.ev_ld 0 _ _ rfl rfl rfl Tryz.underlying24 rfl rfl (by first | assumption | rfl) ?_))
        | ((with_reducible refine gate_dst (N := 62) rfl ?_); go_must (refine M.out.ev_ld 0 _ _ rfl rfl rfl Tryz.underlying24 rfl rfl (by first | assumption | rfl) ?_))
        | ((with_reducible refine gate_dst (N := 66) rfl ?_); go_must (refine M.out.ev_ld 0 _ _ rfl rfl rfl Tryz.underlying26 rfl rfl (by first | assumption | rfl) ?_))
        | ((with_reducible refine gate_dst (N := 72) rfl ?_); go_must (refine M.out.ev_ld 0 _ _ rfl rfl rfl Tryz.underlying26 rfl rfl (by first | assumption | rfl) ?_))
        | ((with_reducible refine gate_dst (N := 80) rfl ?_); go_must (refine M.out.ev_ld 0 _ _ rfl rfl rfl Tryz.underlying26 rfl rfl (by first | assumption | rfl) ?_))
        | ((with_reducible refine gate_dst (N := 27) rfl ?_); go_must (refine M.out.ev_ld 0 _ _ rfl rfl rfl Tryz.underlying26 rfl rfl (by first | assumption | rfl) ?_))
        | ((with_reducible refine gate_dst (N := 33) rfl ?_); go_must (refine M.out.ev_ld 0 _ _ rfl rfl rfl Tryz.underlying26 rfl rfl (by first | assumption | rfl) ?_))
        | (go_at_call 52; go_must (refine (l01Seeds_any _ _).mono ?_); rintro e w_ ⟨rfl, rfl⟩; rw [HSD.out]))
      go_still_tail 13, (by kernel_rfl)
      have B := Lib.hid (M.out.drew.arg HB.out)
      try simp only [World.drewN_drewN] at B
      try simp only [World.drewN_drewN] at M
      refine ev_put 26 (.tmp 37) (.tmp 34) rfl rfl B.out rfl (.int .i16 (IntKind.i16.wrap (F.seed k - d))) rfl (by rw [Fld.size HF.out.toLen]; omega) sz26 rfl rfl ?_
      intro w2 b2 hU
      rw [wrap16 (by omega) (by omega), Fld.setSeed HF.out.toLen] at b2
      have B2 := Lib.hid b2
      clear b2
      go_wp2
      go_ret
      exact ⟨ret_int HC.out.symm, by rw [HA.out]; exact B2.out, grown_upd M.out.drew.below hU⟩
end Go.Proofs.YtaepgjjmfopiiaaGreatDoor
namespace Go.Proofs.YtaepgjjmfopiiaaGreatDoor
set_option linter.unusedSimpArgs false
set_option linter.unusedVariables false
open Go.RowKit
attribute [local go_sem] cell?_mk frozen?_mk

/-! ### Plain -/
/-- The field behind entries, each of them made. -/
def Fld.thru (F : Fld) (xs : List Entry) : Fld := xs.foldl Fld.made F
theorem Fld.thru_snoc (F : Fld) (xs : List Entry) (x : Entry) : F.thru (xs ++ [x]) = (F.thru xs).made x := by simp [Fld.thru]
/-- The sums of the amounts of the four kinds. -/
def addTo (S : List Int) (x : Entry) : List Int := S.set x.what.toNat (gi S x.what.toNat + x.amount)
def sumsOf (xs : List Entry) : List Int := xs.foldl addTo (zs 4)
theorem sumsOf_snoc (xs : List Entry) (x : Entry) : sumsOf (xs ++ [x]) = addTo (sumsOf xs) x := by simp [sumsOf]
theorem addTo_len (S : List Int) (x : Entry) : (addTo S x).length = S.length := by simp [addTo]
theorem sumsOf_len (xs : List Entry) : (sumsOf xs).length = 4 := by
  have : ∀ (xs : List Entry) (S : List Int), (xs.foldl addTo S).length = S.length := by
    intro xs
    induction xs with
    | nil => intro S; rfl
    | cons x r ih => intro S; rw [List.foldl_cons, ih, addTo_len]
  rw [sumsOf, this, zs_len]
/-- All entries of a diary up to the k-th can be made. -/
def fine (F : Fld) (xs : List Entry) (k : Nat) : Prop := ∀ j, j < k → ∀ x, xs[j]? = some x → (F.thru (xs.take j)).code x = 0
/-- The first wrong entry, and its code. -/
def firstBad : Fld → List Entry → Option (Nat × Int)
  | _, [] => none
  | F, x :: r => if F.code x ≠ 0 then some (0, F.code x) else (firstBad (F.made x) r).map fun p => (p.1 + 1, p.2)
theorem firstBad_some : ∀ (xs : List Entry) (F : Fld) (k : Nat) (x : Entry), fine F xs k → xs[k]? = some x → (F.thru (xs.take k)).code x ≠ 0 → firstBad F xs = some (k, (F.thru (xs.take k)).code x)
  | [], F, k, x, _, hx, _ => by simp at hx
  | y :: r, F, 0, x, _, hx, hc => by
    simp only [List.getElem?_cons_zero, Option.some.injEq] at hx
    subst hx
    simp only [List.take_zero, Fld.thru, List.foldl_nil] at hc ⊢
    simp only [firstBad]
    rw [if_pos hc]
  | y :: r, F, k + 1, x, hf, hx, hc => by
    have h0 : F.code y = 0 := by simpa [Fld.thru] using hf 0 (by omega) y (by simp)
    have ih := firstBad_some r (F.made y) k x (fun j hj z hz => by
      have := hf (j + 1) (by omega) z (by simpa using hz)
      simpa [Fld.thru] using this) (by simpa using hx) (by simpa [Fld.thru] using hc)
    simp only [firstBad]
    rw [if_neg (by simpa using h0), ih]
    simp [Fld.thru]
theorem firstBad_none : ∀ (xs : List Entry) (F : Fld), fine F xs xs.length → firstBad F xs = none
  | [], F, _ => rfl
  | y :: r, F, hf => by
    have h0 : F.code y = 0 := by simpa [Fld.thru] using hf 0 (by simp) y (by simp)
    have ih := firstBad_none r (F.made y) (fun j hj z hz => by
      have := hf (j + 1) (by simp; omega) z (by simpa using hz)
      simpa [Fld.thru] using this)
    simp only [firstBad]
    rw [if_neg (by simpa using h0), ih]
    rfl
theorem fine_succ {F : Fld} {xs : List Entry} {k : Nat} {x : Entry} (h : fine F xs k) (hx : xs[k]? = some x) (hc : (F.thru (xs.take k)).code x = 0) : fine F xs (k + 1) := by
  intro j hj y hy
  rcases Nat.lt_or_ge j k with h1 | h1
  · exact h j h1 y hy
  · obtain rfl : j = k := by omega
    rw [hx] at hy
    injection hy with hy
    rw [← hy]
    exact hc
/-- What is so of fields whose cells are as they must be, and stays so. -/
structure Fld.good (F : Fld) : Prop where
  ok : F.ok
  seeds : ∀ k, 0 ≤ F.seed k ∧ F.seed k ≤ 1000
theorem Fld.code_zero {F : Fld} {x : Entry} (h : F.code x = 0) : x.plain = true ∧ F.has x.cell = true ∧ F.kind x.cell.toNat = 0 ∧
    (if x.what = 0 then F.seed x.cell.toNat + x.amount ≤ 1000 else x.amount ≤ F.seed x.cell.toNat) := by
  unfold Fld.code at h
  split at h
  · omega
  rename_i h1
  split at h
  · omega
  rename_i h2
  simp only [Bool.not_eq_false, Bool.and_eq_true] at h1
  refine ⟨h1.1, h1.2, by simpa using h2, ?_⟩
  split at h
  · rename_i hw
    rw [if_pos hw]
    split at h <;> omega
  · rename_i hw
    rw [if_neg hw]
    split at h <;> omega
theorem Entry.plain_iff {x : Entry} : x.plain = true ↔ (0 ≤ x.what ∧ x.what ≤ 3) ∧ (0 ≤ x.cell ∧ x.cell ≤ 99) ∧ (1 ≤ x.amount ∧ x.amount ≤ 1000) := by
  simp [Entry.plain, inB_iff]
theorem Fld.good.made {F : Fld} (h : F.good) {x : Entry} (hc : F.code x = 0) : (F.made x).good := by
  obtain ⟨hp, hh, _, hs⟩ := Fld.code_zero hc
  obtain ⟨_, ⟨c0, c1⟩, a0, a1⟩ := Entry.plain_iff.1 hp
  have hk : x.cell.toNat < F.seeds.length := by rw [h.ok.sl]; omega
  have hb := h.seeds x.cell.toNat
  have hv : 0 ≤ (if x.what = 0 then F.seed x.cell.toNat + x.amount else F.seed x.cell.toNat - x.amount) ∧ (if x.what = 0 then F.seed x.cell.toNat + x.amount else F.seed x.cell.toNat - x.amount) ≤ 1000 := by
    split at hs <;> rename_i hw <;> simp only [hw, if_true, if_false] <;> omega
  refine ⟨⟨⟨h.ok.kl, (Fld.withSeed_len h.ok.toLen _ _).sl⟩, h.ok.w0, h.ok.w1, h.ok.h0, h.ok.h1, h.ok.k0, fun y hy => ?_⟩, fun k => ?_⟩
  · rcases List.mem_or_eq_of_mem_set hy with h1 | h1
    · exact h.ok.s0 y h1
    · rw [h1]; omega
  · by_cases hkk : x.cell.toNat = k
    · subst hkk
      show 0 ≤ gi _ _ ∧ gi _ _ ≤ 1000
      rw [show (F.made x).seeds = F.seeds.set x.cell.toNat (if x.what = 0 then F.seed x.cell.toNat + x.amount else F.seed x.cell.toNat - x.amount) from rfl, gi_set_self hk]
      exact hv
    · show 0 ≤ gi _ _ ∧ gi _ _ ≤ 1000
      rw [show (F.made x).seeds = F.seeds.set x.cell.toNat (if x.what = 0 then F.seed x.cell.toNat + x.amount else F.seed x.cell.toNat - x.amount) from rfl, gi_set_ne hkk]
      exact h.seeds k
theorem Fld.valid_good {F : Fld} (h : F.ok) (hv : F.valid = true) : F.good := by
  refine ⟨h, fun k => ?_⟩
  rcases Nat.lt_or_ge k 100 with hk | hk
  · simp only [Fld.valid, Bool.and_eq_true, List.all_eq_true, List.mem_range] at hv
    have := hv.2.2 k hk
    simp only [Fld.okAt, decide_eq_true_eq] at this
    omega
  · have : F.seed k = 0 := by
      unfold Fld.seed gi
      rw [List.getD_eq_getElem?_getD, List.getElem?_eq_none (by rw [h.sl]; omega)]
      rfl
    omega
theorem fine_good {F : Fld} (h : F.good) (xs : List Entry) : ∀ k, k ≤ xs.length → fine F xs k → (F.thru (xs.take k)).good
  | 0, _, _ => by simpa [Fld.thru] using h
  | k + 1, hk, hf => by
    have ih := fine_good h xs k (by omega) (fun j hj => hf j (by omega))
    have hx : xs[k]? = some xs[k] := List.getElem?_eq_getElem (by omega)
    rw [List.take_succ_eq_append_getElem (by omega), Fld.thru_snoc]
    exact ih.made (hf k (by omega) _ hx)
/-- The sums stay small. -/
theorem sums_small {F : Fld} (xs : List Entry) : ∀ k, k ≤ xs.length → fine F xs k → ∀ j, 0 ≤ gi (sumsOf (xs.take k)) j ∧ gi (sumsOf (xs.take k)) j ≤ 1000 * k
  | 0, _, _ => fun j => by
    have : gi (zs 4) j = 0 := by
      unfold gi zs
      rw [List.getD_eq_getElem?_getD, List.getElem?_replicate]
      split <;> rfl
    simp [sumsOf, this]
  | k + 1, hk, hf => fun j => by
    have ih := sums_small xs k (by omega) (fun j hj => hf j (by omega))
    have hx : xs[k]? = some xs[k] := List.getElem?_eq_getElem (by omega)
    obtain ⟨hp, _⟩ := Fld.code_zero (hf k (by omega) _ hx)
    obtain ⟨⟨w0, w1⟩, _, a0, a1⟩ := Entry.plain_iff.1 hp
    rw [List.take_succ_eq_append_getElem (by omega), sumsOf_snoc]
    unfold addTo
    by_cases hj : xs[k].what.toNat = j
    · subst hj
      rw [gi_set_self (by rw [sumsOf_len]; omega)]
      have := ih xs[k].what.toNat
      omega
    · rw [gi_set_ne hj]
      have := ih j
      omega
end Go.Proofs.YtaepgjjmfopiiaaGreatDoor
