/- An entry made: the reference's walk. -/
import Derived.Test.YteecfclccfhdhaaDiary
namespace Go.Proofs.Yteecfclccfhdhaa
set_option linter.unusedSimpArgs false
set_option linter.unusedVariables false
open Go.RowKit
attribute [local go_sem] cell?_mk frozen?_mk
set_option maxRecDepth 100000 in
set_option maxHeartbeats 2000000 in
theorem l07Apply_any (b : Nat) (F : Fld) (hF : F.ok) (hs : ∀ k, 0 ≤ F.seed k ∧ F.seed k ≤ 1000) (x : Entry) (hx : x.ok) (w : World) (hb : Blk w b 32 F.cells) :
    Calls Try.prog 136 #[.pointer (some ⟨b, 0, none⟩), .agg x.vals.toArray] w (Made F x b w) := by
  have M := Lib.hid (Mem.start w)
  have HB := Lib.hid hb
  have HF := Lib.hid hF
  have HX := Lib.hid hx
  have HS := Lib.hid hs
  clear hb hF hs
  cases hp : x.plain
  · have HP := Lib.hid hp
    have hcode : F.code x = 2 := by simp [Fld.code, hp]
    have HC := Lib.hid hcode
    have HA := Lib.hid (show F.after x = F by simp [Fld.after, hcode])
    clear hp hcode hx
    obtain ⟨a, c, d⟩ := x
    go_enter Try.func136, Try.ntmps136
    simp only [Entry.vals]
    go_wp2_with (first
      | ((with_reducible refine gate_dst (N := 3) rfl ?_); go_must (refine M.out.ev_new rfl (by first | (go_simp; done) | (go_simp; rfl)) ?_); intro g3 w3 m; simp only [List.cons_append, List.nil_append] at m; have M := Lib.hid m; clear m; try have q0_1 := M.out.cell (j := 1) 0 rfl (by first | assumption | rfl); try have q0_2 := M.out.cell (j := 2) 0 rfl (by first | assumption | rfl))
      | ((with_reducible refine gate_dst (N := 6) rfl ?_); go_must (refine M.out.ev_ldw 0 _ _ rfl rfl rfl Try.underlying130 rfl (by first | exact sz130 | (rw [S1.out]; exact sz130) | (rw [S2.out]; exact sz130) | (rw [S3.out]; exact sz130)) rfl ?_))
      | ((with_reducible refine gate_dst (N := 19) rfl ?_); go_must (refine M.out.ev_ld 0 _ _ rfl rfl rfl Try.underlying24 rfl rfl (by first | assumption | rfl) ?_))
      | ((with_reducible refine gate_dst (N := 41) rfl ?_); go_must (refine M.out.ev_ld 0 _ _ rfl rfl rfl Try.underlying24 rfl rfl (by first | assumption | rfl) ?_))
      | ((with_reducible refine gate_dst (N := 49) rfl ?_); go_must (refine M.out.ev_ld 0 _ _ rfl rfl rfl Try.underlying22 rfl rfl (by first | assumption | rfl) ?_))
      | ((with_reducible refine gate_dst (N := 62) rfl ?_); go_must (refine M.out.ev_ld 0 _ _ rfl rfl rfl Try.underlying22 rfl rfl (by first | assumption | rfl) ?_))
      | ((with_reducible refine gate_dst (N := 66) rfl ?_); go_must (refine M.out.ev_ld 0 _ _ rfl rfl rfl Try.underlying24 rfl rfl (by first | assumption | rfl) ?_))
      | ((with_reducible refine gate_dst (N := 72) rfl ?_); go_must (refine M.out.ev_ld 0 _ _ rfl rfl rfl Try.underlying24 rfl rfl (by first | assumption | rfl) ?_))
      | ((with_reducible refine gate_dst (N := 80) rfl ?_); go_must (refine M.out.ev_ld 0 _ _ rfl rfl rfl Try.underlying24 rfl rfl (by first | assumption | rfl) ?_))
      | ((with_reducible refine gate_dst (N := 27) rfl ?_); go_must (refine M.out.ev_ld 0 _ _ rfl rfl rfl Try.underlying24 rfl rfl (by first | assumption | rfl) ?_))
      | ((with_reducible refine gate_dst (N := 33) rfl ?_); go_must (refine M.out.ev_ld 0 _ _ rfl rfl rfl Try.underlying24 rfl rfl (by first | assumption | rfl) ?_))
      | (go_at_call 146; go_must (refine (l07Entry_any ⟨a, c, d⟩ HX.out _).mono ?_); rintro e w_ ⟨rfl, N_⟩; rw [HP.out]; have m := M.out.join N_; clear N_; simp only [List.append_nil] at m; have M := Lib.hid m; clear m))
    go_ret
    exact ⟨ret_int HC.out.symm, by rw [HA.out]; simpa only [World.drewN_drewN] using M.out.arg HB.out, grown_below (by simpa only [World.drewN_drewN] using M.out.below)⟩
  have HP := Lib.hid hp
  cases hh : F.has x.cell
  · have HH := Lib.hid hh
    have hcode : F.code x = 2 := by simp [Fld.code, hp, hh]
    have HC := Lib.hid hcode
    have HA := Lib.hid (show F.after x = F by simp [Fld.after, hcode])
    clear hp hcode hx hh
    obtain ⟨a, c, d⟩ := x
    have bb := HX.out.b
    simp only at bb
    have b0 := bb.1
    have b1 := bb.2
    clear bb
    go_enter Try.func136, Try.ntmps136
    simp only [Entry.vals]
    go_wp2_with (first
      | ((with_reducible refine gate_dst (N := 3) rfl ?_); go_must (refine M.out.ev_new rfl (by first | (go_simp; done) | (go_simp; rfl)) ?_); intro g3 w3 m; simp only [List.cons_append, List.nil_append] at m; have M := Lib.hid m; clear m; try have q0_1 := M.out.cell (j := 1) 0 rfl (by first | assumption | rfl); try have q0_2 := M.out.cell (j := 2) 0 rfl (by first | assumption | rfl))
      | ((with_reducible refine gate_dst (N := 6) rfl ?_); go_must (refine M.out.ev_ldw 0 _ _ rfl rfl rfl Try.underlying130 rfl (by first | exact sz130 | (rw [S1.out]; exact sz130) | (rw [S2.out]; exact sz130) | (rw [S3.out]; exact sz130)) rfl ?_))
      | ((with_reducible refine gate_dst (N := 19) rfl ?_); go_must (refine M.out.ev_ld 0 _ _ rfl rfl rfl Try.underlying24 rfl rfl (by first | assumption | rfl) ?_))
      | ((with_reducible refine gate_dst (N := 41) rfl ?_); go_must (refine M.out.ev_ld 0 _ _ rfl rfl rfl Try.underlying24 rfl rfl (by first | assumption | rfl) ?_))
      | ((with_reducible refine gate_dst (N := 49) rfl ?_); go_must (refine M.out.ev_ld 0 _ _ rfl rfl rfl Try.underlying22 rfl rfl (by first | assumption | rfl) ?_))
      | ((with_reducible refine gate_dst (N := 62) rfl ?_); go_must (refine M.out.ev_ld 0 _ _ rfl rfl rfl Try.underlying22 rfl rfl (by first | assumption | rfl) ?_))
      | ((with_reducible refine gate_dst (N := 66) rfl ?_); go_must (refine M.out.ev_ld 0 _ _ rfl rfl rfl Try.underlying24 rfl rfl (by first | assumption | rfl) ?_))
      | ((with_reducible refine gate_dst (N := 72) rfl ?_); go_must (refine M.out.ev_ld 0 _ _ rfl rfl rfl Try.underlying24 rfl rfl (by first | assumption | rfl) ?_))
      | ((with_reducible refine gate_dst (N := 80) rfl ?_); go_must (refine M.out.ev_ld 0 _ _ rfl rfl rfl Try.underlying24 rfl rfl (by first | assumption | rfl) ?_))
      | ((with_reducible refine gate_dst (N := 27) rfl ?_); go_must (refine M.out.ev_ld 0 _ _ rfl rfl rfl Try.underlying24 rfl rfl (by first | assumption | rfl) ?_))
      | ((with_reducible refine gate_dst (N := 33) rfl ?_); go_must (refine M.out.ev_ld 0 _ _ rfl rfl rfl Try.underlying24 rfl rfl (by first | assumption | rfl) ?_))
      | (go_at_call 146; go_must (refine (l07Entry_any ⟨a, c, d⟩ HX.out _).mono ?_); rintro e w_ ⟨rfl, N_⟩; rw [HP.out]; have m := M.out.join N_; clear N_; simp only [List.append_nil] at m; have M := Lib.hid m; clear m; have q0_1 := M.out.cell (j := 1) 0 rfl rfl)
      | (go_at_call 58; go_must (refine (l01Is_any b F HF.out c _ (M.out.arg HB.out)).mono ?_); rintro e w_ ⟨rfl, rfl⟩; rw [HH.out]))
    go_ret
    exact ⟨ret_int HC.out.symm, by rw [HA.out]; simpa only [World.drewN_drewN] using M.out.arg HB.out, grown_below (by simpa only [World.drewN_drewN] using M.out.below)⟩
  have HH := Lib.hid hh
  obtain ⟨a, c, d⟩ := x
  obtain ⟨⟨c0, c1⟩, _⟩ := Fld.has_iff.1 hh
  simp only at c0 c1
  obtain ⟨k, rfl⟩ : ∃ k : Nat, c = k := ⟨c.toNat, by omega⟩
  have hk : k < 100 := by omega
  have hpl : (0 ≤ a ∧ a ≤ 3) ∧ 1 ≤ d ∧ d ≤ 1000 := by
    simp only [Entry.plain, Bool.and_eq_true, inB_iff] at hp
    exact ⟨hp.1, hp.2.2⟩
  have d0 := hpl.1.1
  have d1 := hpl.1.2
  have d2 := hpl.2.1
  have d3 := hpl.2.2
  have hk1 := HB.out.cellv (Fld.cellK HF.out.toLen hk)
  have hk2 := HB.out.cellv (Fld.cellS HF.out.toLen hk)
  have s0 := (HS.out k).1
  have s1 := (HS.out k).2
  have k0 := (HF.out.kb k).1
  have k1 := (HF.out.kb k).2
  have i0 : (0 : Int) ≤ (k : Int) := by omega
  have i1 : (k : Int) < 100 := by omega
  have HK := Lib.hid hk
  by_cases hkd : F.kind k ≠ 0
  · have hcode : F.code ⟨a, k, d⟩ = 4 := by simp [Fld.code, hp, hh, hkd]
    have HC := Lib.hid hcode
    have HA := Lib.hid (show F.after ⟨a, k, d⟩ = F by simp [Fld.after, hcode])
    clear hp hcode hx hh hpl
    go_enter Try.func136, Try.ntmps136
    simp only [Entry.vals]
    go_wp2_with (first
      | ((with_reducible refine gate_dst (N := 3) rfl ?_); go_must (refine M.out.ev_new rfl (by first | (go_simp; done) | (go_simp; rfl)) ?_); intro g3 w3 m; simp only [List.cons_append, List.nil_append] at m; have M := Lib.hid m; clear m; try have q0_1 := M.out.cell (j := 1) 0 rfl (by first | assumption | rfl); try have q0_2 := M.out.cell (j := 2) 0 rfl (by first | assumption | rfl))
      | ((with_reducible refine gate_dst (N := 6) rfl ?_); go_must (refine M.out.ev_ldw 0 _ _ rfl rfl rfl Try.underlying130 rfl (by first | exact sz130 | (rw [S1.out]; exact sz130) | (rw [S2.out]; exact sz130) | (rw [S3.out]; exact sz130)) rfl ?_))
      | ((with_reducible refine gate_dst (N := 19) rfl ?_); go_must (refine M.out.ev_ld 0 _ _ rfl rfl rfl Try.underlying24 rfl rfl (by first | assumption | rfl) ?_))
      | ((with_reducible refine gate_dst (N := 41) rfl ?_); go_must (refine M.out.ev_ld 0 _ _ rfl rfl rfl Try.underlying24 rfl rfl (by first | assumption | rfl) ?_))
      | ((with_reducible refine gate_dst (N := 49) rfl ?_); go_must (refine M.out.ev_ld 0 _ _ rfl rfl rfl Try.underlying22 rfl rfl (by first | assumption | rfl) ?_))
      | ((with_reducible refine gate_dst (N := 62) rfl ?_); go_must (refine M.out.ev_ld 0 _ _ rfl rfl rfl Try.underlying22 rfl rfl (by first | assumption | rfl) ?_))
      | ((with_reducible refine gate_dst (N := 66) rfl ?_); go_must (refine M.out.ev_ld 0 _ _ rfl rfl rfl Try.underlying24 rfl rfl (by first | assumption | rfl) ?_))
      | ((with_reducible refine gate_dst (N := 72) rfl ?_); go_must (refine M.out.ev_ld 0 _ _ rfl rfl rfl Try.underlying24 rfl rfl (by first | assumption | rfl) ?_))
      | ((with_reducible refine gate_dst (N := 80) rfl ?_); go_must (refine M.out.ev_ld 0 _ _ rfl rfl rfl Try.underlying24 rfl rfl (by first | assumption | rfl) ?_))
      | ((with_reducible refine gate_dst (N := 27) rfl ?_); go_must (refine M.out.ev_ld 0 _ _ rfl rfl rfl Try.underlying24 rfl rfl (by first | assumption | rfl) ?_))
      | ((with_reducible refine gate_dst (N := 33) rfl ?_); go_must (refine M.out.ev_ld 0 _ _ rfl rfl rfl Try.underlying24 rfl rfl (by first | assumption | rfl) ?_))
      | (go_at_call 146; go_must (refine (l07Entry_any ⟨a, k, d⟩ HX.out _).mono ?_); rintro e w_ ⟨rfl, N_⟩; rw [HP.out]; have m := M.out.join N_; clear N_; simp only [List.append_nil] at m; have M := Lib.hid m; clear m; have q0_1 := M.out.cell (j := 1) 0 rfl rfl; have r1 := M.out.argcell hk1; have r2 := M.out.argcell hk2)
      | (go_at_call 58; go_must (refine (l01Is_any b F HF.out k _ (M.out.arg HB.out)).mono ?_); rintro e w_ ⟨rfl, rfl⟩; rw [HH.out]))
    go_quiet (fail)
    have M := Lib.hid (M.out.drewN nq)
    try simp only [World.drewN_drewN] at M
    go_wp2
    go_quiet (fail)
    have M := Lib.hid (M.out.drewN nq)
    try simp only [World.drewN_drewN] at M
    go_wp2
    go_ret
    exact ⟨ret_int HC.out.symm, by rw [HA.out]; simpa only [World.drewN_drewN] using M.out.arg HB.out, grown_below (by simpa only [World.drewN_drewN] using M.out.below)⟩
  have hkd : F.kind k = 0 := by omega
  rw [hkd] at hk1 k0 k1
  by_cases ha : a = 0
  · subst ha
    by_cases hq : 1000 < F.seed k + d
    · have hcode : F.code ⟨0, k, d⟩ = 3 := by simp [Fld.code, hp, hh, hkd, hq]
      have HC := Lib.hid hcode
      have HA := Lib.hid (show F.after ⟨0, k, d⟩ = F by simp [Fld.after, hcode])
      have HSD := Lib.hid (show inB (F.seed k + d) 0 1000 = false by rw [inB_not]; omega)
      clear hp hcode hx hh hpl hkd
      go_enter Try.func136, Try.ntmps136
      simp only [Entry.vals]
      go_wp2_with (first
        | ((with_reducible refine gate_dst (N := 3) rfl ?_); go_must (refine M.out.ev_new rfl (by first | (go_simp; done) | (go_simp; rfl)) ?_); intro g3 w3 m; simp only [List.cons_append, List.nil_append] at m; have M := Lib.hid m; clear m; try have q0_1 := M.out.cell (j := 1) 0 rfl (by first | assumption | rfl); try have q0_2 := M.out.cell (j := 2) 0 rfl (by first | assumption | rfl))
        | ((with_reducible refine gate_dst (N := 6) rfl ?_); go_must (refine M.out.ev_ldw 0 _ _ rfl rfl rfl Try.underlying130 rfl (by first | exact sz130 | (rw [S1.out]; exact sz130) | (rw [S2.out]; exact sz130) | (rw [S3.out]; exact sz130)) rfl ?_))
        | ((with_reducible refine gate_dst (N := 19) rfl ?_); go_must (refine M.out.ev_ld 0 _ _ rfl rfl rfl Try.underlying24 rfl rfl (by first | assumption | rfl) ?_))
        | ((with_reducible refine gate_dst (N := 41) rfl ?_); go_must (refine M.out.ev_ld 0 _ _ rfl rfl rfl Try.underlying24 rfl rfl (by first | assumption | rfl) ?_))
        | ((with_reducible refine gate_dst (N := 49) rfl ?_); go_must (refine M.out.ev_ld 0 _ _ rfl rfl rfl Try.underlying22 rfl rfl (by first | assumption | rfl) ?_))
        | ((with_reducible refine gate_dst (N := 62) rfl ?_); go_must (refine M.out.ev_ld 0 _ _ rfl rfl rfl Try.underlying22 rfl rfl (by first | assumption | rfl) ?_))
        | ((with_reducible refine gate_dst (N := 66) rfl ?_); go_must (refine M.out.ev_ld 0 _ _ rfl rfl rfl Try.underlying24 rfl rfl (by first | assumption | rfl) ?_))
        | ((with_reducible refine gate_dst (N := 72) rfl ?_); go_must (refine M.out.ev_ld 0 _ _ rfl rfl rfl Try.underlying24 rfl rfl (by first | assumption | rfl) ?_))
        | ((with_reducible refine gate_dst (N := 80) rfl ?_); go_must (refine M.out.ev_ld 0 _ _ rfl rfl rfl Try.underlying24 rfl rfl (by first | assumption | rfl) ?_))
        | ((with_reducible refine gate_dst (N := 27) rfl ?_); go_must (refine M.out.ev_ld 0 _ _ rfl rfl rfl Try.underlying24 rfl rfl (by first | assumption | rfl) ?_))
        | ((with_reducible refine gate_dst (N := 33) rfl ?_); go_must (refine M.out.ev_ld 0 _ _ rfl rfl rfl Try.underlying24 rfl rfl (by first | assumption | rfl) ?_))
        | (go_at_call 146; go_must (refine (l07Entry_any ⟨0, k, d⟩ HX.out _).mono ?_); rintro e w_ ⟨rfl, N_⟩; rw [HP.out]; have m := M.out.join N_; clear N_; simp only [List.append_nil] at m; have M := Lib.hid m; clear m; have q0_0 := M.out.cell (j := 0) 0 rfl rfl; have q0_1 := M.out.cell (j := 1) 0 rfl rfl; have q0_2 := M.out.cell (j := 2) 0 rfl rfl; have r1 := M.out.argcell hk1; have r2 := M.out.argcell hk2)
        | (go_at_call 58; go_must (refine (l01Is_any b F HF.out k _ (M.out.arg HB.out)).mono ?_); rintro e w_ ⟨rfl, rfl⟩; rw [HH.out]))
      go_quiet (fail)
      have M := Lib.hid (M.out.drewN nq)
      try simp only [World.drewN_drewN] at M
      go_wp2
      go_quiet (fail)
      have M := Lib.hid (M.out.drewN nq)
      try simp only [World.drewN_drewN] at M
      have q0_0 := M.out.cell (j := 0) 0 rfl rfl
      have q0_2 := M.out.cell (j := 2) 0 rfl rfl
      go_wp2_with (first
        | ((with_reducible refine gate_dst (N := 3) rfl ?_); go_must (refine M.out.ev_new rfl (by first | (go_simp; done) | (go_simp; rfl)) ?_); intro g3 w3 m; simp only [List.cons_append, List.nil_append] at m; have M := Lib.hid m; clear m; try have q0_1 := M.out.cell (j := 1) 0 rfl (by first | assumption | rfl); try have q0_2 := M.out.cell (j := 2) 0 rfl (by first | assumption | rfl))
        | ((with_reducible refine gate_dst (N := 6) rfl ?_); go_must (refine M.out.ev_ldw 0 _ _ rfl rfl rfl Try.underlying130 rfl (by first | exact sz130 | (rw [S1.out]; exact sz130) | (rw [S2.out]; exact sz130) | (rw [S3.out]; exact sz130)) rfl ?_))
        | ((with_reducible refine gate_dst (N := 19) rfl ?_); go_must (refine M.out.ev_ld 0 _ _ rfl rfl rfl Try.underlying24 rfl rfl (by first | assumption | rfl) ?_))
        | ((with_reducible refine gate_dst (N := 41) rfl ?_); go_must (refine M.out.ev_ld 0 _ _ rfl rfl rfl Try.underlying24 rfl rfl (by first | assumption | rfl) ?_))
        | ((with_reducible refine gate_dst (N := 49) rfl ?_); go_must (refine M.out.ev_ld 0 _ _ rfl rfl rfl Try.underlying22 rfl rfl (by first | assumption | rfl) ?_))
        | ((with_reducible refine gate_dst (N := 62) rfl ?_); go_must (refine M.out.ev_ld 0 _ _ rfl rfl rfl Try.underlying22 rfl rfl (by first | assumption | rfl) ?_))
        | ((with_reducible refine gate_dst (N := 66) rfl ?_); go_must (refine M.out.ev_ld 0 _ _ rfl rfl rfl Try.underlying24 rfl rfl (by first | assumption | rfl) ?_))
        | ((with_reducible refine gate_dst (N := 72) rfl ?_); go_must (refine M.out.ev_ld 0 _ _ rfl rfl rfl Try.underlying24 rfl rfl (by first | assumption | rfl) ?_))
        | ((with_reducible refine gate_dst (N := 80) rfl ?_); go_must (refine M.out.ev_ld 0 _ _ rfl rfl rfl Try.underlying24 rfl rfl (by first | assumption | rfl) ?_))
        | ((with_reducible refine gate_dst (N := 27) rfl ?_); go_must (refine M.out.ev_ld 0 _ _ rfl rfl rfl Try.underlying24 rfl rfl (by first | assumption | rfl) ?_))
        | ((with_reducible refine gate_dst (N := 33) rfl ?_); go_must (refine M.out.ev_ld 0 _ _ rfl rfl rfl Try.underlying24 rfl rfl (by first | assumption | rfl) ?_))
        | (go_at_call 145; go_must (refine (l01Seeds_any _ _).mono ?_); rintro e w_ ⟨rfl, rfl⟩; rw [HSD.out]))
      go_ret
      exact ⟨ret_int HC.out.symm, by rw [HA.out]; simpa only [World.drewN_drewN] using M.out.arg HB.out, grown_below (by simpa only [World.drewN_drewN] using M.out.below)⟩
    · have hcode : F.code ⟨0, k, d⟩ = 0 := by simp [Fld.code, hp, hh, hkd, hq]
      have HC := Lib.hid hcode
      have HA := Lib.hid (show F.after ⟨0, k, d⟩ = F.withSeed k (F.seed k + d) by simp [Fld.after, hcode, Fld.made])
      have HSD := Lib.hid (show inB (F.seed k + d) 0 1000 = true by rw [inB_iff]; omega)
      clear hp hcode hx hh hpl hkd
      go_enter Try.func136, Try.ntmps136
      simp only [Entry.vals]
      go_wp2_with (first
        | ((with_reducible refine gate_dst (N := 3) rfl ?_); go_must (refine M.out.ev_new rfl (by first | (go_simp; done) | (go_simp; rfl)) ?_); intro g3 w3 m; simp only [List.cons_append, List.nil_append] at m; have M := Lib.hid m; clear m; try have q0_1 := M.out.cell (j := 1) 0 rfl (by first | assumption | rfl); try have q0_2 := M.out.cell (j := 2) 0 rfl (by first | assumption | rfl))
        | ((with_reducible refine gate_dst (N := 6) rfl ?_); go_must (refine M.out.ev_ldw 0 _ _ rfl rfl rfl Try.underlying130 rfl (by first | exact sz130 | (rw [S1.out]; exact sz130) | (rw [S2.out]; exact sz130) | (rw [S3.out]; exact sz130)) rfl ?_))
        | ((with_reducible refine gate_dst (N := 19) rfl ?_); go_must (refine M.out.ev_ld 0 _ _ rfl rfl rfl Try.underlying24 rfl rfl (by first | assumption | rfl) ?_))
        | ((with_reducible refine gate_dst (N := 41) rfl ?_); go_must (refine M.out.ev_ld 0 _ _ rfl rfl rfl Try.underlying24 rfl rfl (by first | assumption | rfl) ?_))
        | ((with_reducible refine gate_dst (N := 49) rfl ?_); go_must (refine M.out.ev_ld 0 _ _ rfl rfl rfl Try.underlying22 rfl rfl (by first | assumption | rfl) ?_))
        | ((with_reducible refine gate_dst (N := 62) rfl ?_); go_must (refine M.out.ev_ld 0 _ _ rfl rfl rfl Try.underlying22 rfl rfl (by first | assumption | rfl) ?_))
        | ((with_reducible refine gate_dst (N := 66) rfl ?_); go_must (refine M.out.ev_ld 0 _ _ rfl rfl rfl Try.underlying24 rfl rfl (by first | assumption | rfl) ?_))
        | ((with_reducible refine gate_dst (N := 72) rfl ?_); go_must (refine M.out.ev_ld 0 _ _ rfl rfl rfl Try.underlying24 rfl rfl (by first | assumption | rfl) ?_))
        | ((with_reducible refine gate_dst (N := 80) rfl ?_); go_must (refine M.out.ev_ld 0 _ _ rfl rfl rfl Try.underlying24 rfl rfl (by first | assumption | rfl) ?_))
        | ((with_reducible refine gate_dst (N := 27) rfl ?_); go_must (refine M.out.ev_ld 0 _ _ rfl rfl rfl Try.underlying24 rfl rfl (by first | assumption | rfl) ?_))
        | ((with_reducible refine gate_dst (N := 33) rfl ?_); go_must (refine M.out.ev_ld 0 _ _ rfl rfl rfl Try.underlying24 rfl rfl (by first | assumption | rfl) ?_))
        | (go_at_call 146; go_must (refine (l07Entry_any ⟨0, k, d⟩ HX.out _).mono ?_); rintro e w_ ⟨rfl, N_⟩; rw [HP.out]; have m := M.out.join N_; clear N_; simp only [List.append_nil] at m; have M := Lib.hid m; clear m; have q0_0 := M.out.cell (j := 0) 0 rfl rfl; have q0_1 := M.out.cell (j := 1) 0 rfl rfl; have q0_2 := M.out.cell (j := 2) 0 rfl rfl; have r1 := M.out.argcell hk1; have r2 := M.out.argcell hk2)
        | (go_at_call 58; go_must (refine (l01Is_any b F HF.out k _ (M.out.arg HB.out)).mono ?_); rintro e w_ ⟨rfl, rfl⟩; rw [HH.out]))
      go_quiet (fail)
      have M := Lib.hid (M.out.drewN nq)
      try simp only [World.drewN_drewN] at M
      go_wp2
      go_quiet (fail)
      have M := Lib.hid (M.out.drewN nq)
      try simp only [World.drewN_drewN] at M
      have q0_0 := M.out.cell (j := 0) 0 rfl rfl
      have q0_2 := M.out.cell (j := 2) 0 rfl rfl
      go_wp2_with (first
        | ((with_reducible refine gate_dst (N := 3) rfl ?_); go_must (refine M.out.ev_new rfl (by first | (go_simp; done) | (go_simp; rfl)) ?_); intro g3 w3 m; simp only [List.cons_append, List.nil_append] at m; have M := Lib.hid m; clear m; try have q0_1 := M.out.cell (j := 1) 0 rfl (by first | assumption | rfl); try have q0_2 := M.out.cell (j := 2) 0 rfl (by first | assumption | rfl))
        | ((with_reducible refine gate_dst (N := 6) rfl ?_); go_must (refine M.out.ev_ldw 0 _ _ rfl rfl rfl Try.underlying130 rfl (by first | exact sz130 | (rw [S1.out]; exact sz130) | (rw [S2.out]; exact sz130) | (rw [S3.out]; exact sz130)) rfl ?_))
        | ((with_reducible refine gate_dst (N := 19) rfl ?_); go_must (refine M.out.ev_ld 0 _ _ rfl rfl rfl Try.underlying24 rfl rfl (by first | assumption | rfl) ?_))
        | ((with_reducible refine gate_dst (N := 41) rfl ?_); go_must (refine M.out.ev_ld 0 _ _ rfl rfl rfl Try.underlying24 rfl rfl (by first | assumption | rfl) ?_))
        | ((with_reducible refine gate_dst (N := 49) rfl ?_); go_must (refine M.out.ev_ld 0 _ _ rfl rfl rfl Try.underlying22 rfl rfl (by first | assumption | rfl) ?_))
        | ((with_reducible refine gate_dst (N := 62) rfl ?_); go_must (refine M.out.ev_ld 0 _ _ rfl rfl rfl Try.underlying22 rfl rfl (by first | assumption | rfl) ?_))
        | ((with_reducible refine gate_dst (N := 66) rfl ?_); go_must (refine M.out.ev_ld 0 _ _ rfl rfl rfl Try.underlying24 rfl rfl (by first | assumption | rfl) ?_))
        | ((with_reducible refine gate_dst (N := 72) rfl ?_); go_must (refine M.out.ev_ld 0 _ _ rfl rfl rfl Try.underlying24 rfl rfl (by first | assumption | rfl) ?_))
        | ((with_reducible refine gate_dst (N := 80) rfl ?_); go_must (refine M.out.ev_ld 0 _ _ rfl rfl rfl Try.underlying24 rfl rfl (by first | assumption | rfl) ?_))
        | ((with_reducible refine gate_dst (N := 27) rfl ?_); go_must (refine M.out.ev_ld 0 _ _ rfl rfl rfl Try.underlying24 rfl rfl (by first | assumption | rfl) ?_))
        | ((with_reducible refine gate_dst (N := 33) rfl ?_); go_must (refine M.out.ev_ld 0 _ _ rfl rfl rfl Try.underlying24 rfl rfl (by first | assumption | rfl) ?_))
        | (go_at_call 145; go_must (refine (l01Seeds_any _ _).mono ?_); rintro e w_ ⟨rfl, rfl⟩; rw [HSD.out]))
      go_still_tail 13, (by kernel_rfl)
      have B := Lib.hid (M.out.drew.arg HB.out)
      try simp only [World.drewN_drewN] at B
      try simp only [World.drewN_drewN] at M
      refine ev_put 24 (.tmp 76) (.tmp 73) rfl rfl B.out rfl (.int .i16 (IntKind.i16.wrap (F.seed k + d))) rfl (by rw [Fld.size HF.out.toLen]; omega) sz24 rfl rfl ?_
      intro w2 b2 hU
      rw [wrap16 (by omega) (by omega), Fld.setSeed HF.out.toLen] at b2
      have B2 := Lib.hid b2
      clear b2
      go_wp2
      go_ret
      exact ⟨ret_int HC.out.symm, by rw [HA.out]; exact B2.out, grown_upd M.out.drew.below hU⟩
  · have ha1 : (a == 0) = false := beq_eq_false_iff_ne.2 ha
    have HSD := Lib.hid (show True from trivial)
    by_cases hq : F.seed k < d
    · have hcode : F.code ⟨a, k, d⟩ = 8 := by simp [Fld.code, hp, hh, hkd, hq, ha]
      have HC := Lib.hid hcode
      have HA := Lib.hid (show F.after ⟨a, k, d⟩ = F by simp [Fld.after, hcode])
      clear hp hcode hx hh hpl hkd
      go_enter Try.func136, Try.ntmps136
      simp only [Entry.vals]
      go_wp2_with (first
        | ((with_reducible refine gate_dst (N := 3) rfl ?_); go_must (refine M.out.ev_new rfl (by first | (go_simp; done) | (go_simp; rfl)) ?_); intro g3 w3 m; simp only [List.cons_append, List.nil_append] at m; have M := Lib.hid m; clear m; try have q0_1 := M.out.cell (j := 1) 0 rfl (by first | assumption | rfl); try have q0_2 := M.out.cell (j := 2) 0 rfl (by first | assumption | rfl))
        | ((with_reducible refine gate_dst (N := 6) rfl ?_); go_must (refine M.out.ev_ldw 0 _ _ rfl rfl rfl Try.underlying130 rfl (by first | exact sz130 | (rw [S1.out]; exact sz130) | (rw [S2.out]; exact sz130) | (rw [S3.out]; exact sz130)) rfl ?_))
        | ((with_reducible refine gate_dst (N := 19) rfl ?_); go_must (refine M.out.ev_ld 0 _ _ rfl rfl rfl Try.underlying24 rfl rfl (by first | assumption | rfl) ?_))
        | ((with_reducible refine gate_dst (N := 41) rfl ?_); go_must (refine M.out.ev_ld 0 _ _ rfl rfl rfl Try.underlying24 rfl rfl (by first | assumption | rfl) ?_))
        | ((with_reducible refine gate_dst (N := 49) rfl ?_); go_must (refine M.out.ev_ld 0 _ _ rfl rfl rfl Try.underlying22 rfl rfl (by first | assumption | rfl) ?_))
        | ((with_reducible refine gate_dst (N := 62) rfl ?_); go_must (refine M.out.ev_ld 0 _ _ rfl rfl rfl Try.underlying22 rfl rfl (by first | assumption | rfl) ?_))
        | ((with_reducible refine gate_dst (N := 66) rfl ?_); go_must (refine M.out.ev_ld 0 _ _ rfl rfl rfl Try.underlying24 rfl rfl (by first | assumption | rfl) ?_))
        | ((with_reducible refine gate_dst (N := 72) rfl ?_); go_must (refine M.out.ev_ld 0 _ _ rfl rfl rfl Try.underlying24 rfl rfl (by first | assumption | rfl) ?_))
        | ((with_reducible refine gate_dst (N := 80) rfl ?_); go_must (refine M.out.ev_ld 0 _ _ rfl rfl rfl Try.underlying24 rfl rfl (by first | assumption | rfl) ?_))
        | ((with_reducible refine gate_dst (N := 27) rfl ?_); go_must (refine M.out.ev_ld 0 _ _ rfl rfl rfl Try.underlying24 rfl rfl (by first | assumption | rfl) ?_))
        | ((with_reducible refine gate_dst (N := 33) rfl ?_); go_must (refine M.out.ev_ld 0 _ _ rfl rfl rfl Try.underlying24 rfl rfl (by first | assumption | rfl) ?_))
        | (go_at_call 146; go_must (refine (l07Entry_any ⟨a, k, d⟩ HX.out _).mono ?_); rintro e w_ ⟨rfl, N_⟩; rw [HP.out]; have m := M.out.join N_; clear N_; simp only [List.append_nil] at m; have M := Lib.hid m; clear m; have q0_0 := M.out.cell (j := 0) 0 rfl rfl; have q0_1 := M.out.cell (j := 1) 0 rfl rfl; have q0_2 := M.out.cell (j := 2) 0 rfl rfl; have r1 := M.out.argcell hk1; have r2 := M.out.argcell hk2)
        | (go_at_call 58; go_must (refine (l01Is_any b F HF.out k _ (M.out.arg HB.out)).mono ?_); rintro e w_ ⟨rfl, rfl⟩; rw [HH.out]))
      go_quiet (fail)
      have M := Lib.hid (M.out.drewN nq)
      try simp only [World.drewN_drewN] at M
      go_wp2
      go_quiet (fail)
      have M := Lib.hid (M.out.drewN nq)
      try simp only [World.drewN_drewN] at M
      have q0_0 := M.out.cell (j := 0) 0 rfl rfl
      have q0_2 := M.out.cell (j := 2) 0 rfl rfl
      go_wp2_with (first
        | ((with_reducible refine gate_dst (N := 3) rfl ?_); go_must (refine M.out.ev_new rfl (by first | (go_simp; done) | (go_simp; rfl)) ?_); intro g3 w3 m; simp only [List.cons_append, List.nil_append] at m; have M := Lib.hid m; clear m; try have q0_1 := M.out.cell (j := 1) 0 rfl (by first | assumption | rfl); try have q0_2 := M.out.cell (j := 2) 0 rfl (by first | assumption | rfl))
        | ((with_reducible refine gate_dst (N := 6) rfl ?_); go_must (refine M.out.ev_ldw 0 _ _ rfl rfl rfl Try.underlying130 rfl (by first | exact sz130 | (rw [S1.out]; exact sz130) | (rw [S2.out]; exact sz130) | (rw [S3.out]; exact sz130)) rfl ?_))
        | ((with_reducible refine gate_dst (N := 19) rfl ?_); go_must (refine M.out.ev_ld 0 _ _ rfl rfl rfl Try.underlying24 rfl rfl (by first | assumption | rfl) ?_))
        | ((with_reducible refine gate_dst (N := 41) rfl ?_); go_must (refine M.out.ev_ld 0 _ _ rfl rfl rfl Try.underlying24 rfl rfl (by first | assumption | rfl) ?_))
        | ((with_reducible refine gate_dst (N := 49) rfl ?_); go_must (refine M.out.ev_ld 0 _ _ rfl rfl rfl Try.underlying22 rfl rfl (by first | assumption | rfl) ?_))
        | ((with_reducible refine gate_dst (N := 62) rfl ?_); go_must (refine M.out.ev_ld 0 _ _ rfl rfl rfl Try.underlying22 rfl rfl (by first | assumption | rfl) ?_))
        | ((with_reducible refine gate_dst (N := 66) rfl ?_); go_must (refine M.out.ev_ld 0 _ _ rfl rfl rfl Try.underlying24 rfl rfl (by first | assumption | rfl) ?_))
        | ((with_reducible refine gate_dst (N := 72) rfl ?_); go_must (refine M.out.ev_ld 0 _ _ rfl rfl rfl Try.underlying24 rfl rfl (by first | assumption | rfl) ?_))
        | ((with_reducible refine gate_dst (N := 80) rfl ?_); go_must (refine M.out.ev_ld 0 _ _ rfl rfl rfl Try.underlying24 rfl rfl (by first | assumption | rfl) ?_))
        | ((with_reducible refine gate_dst (N := 27) rfl ?_); go_must (refine M.out.ev_ld 0 _ _ rfl rfl rfl Try.underlying24 rfl rfl (by first | assumption | rfl) ?_))
        | ((with_reducible refine gate_dst (N := 33) rfl ?_); go_must (refine M.out.ev_ld 0 _ _ rfl rfl rfl Try.underlying24 rfl rfl (by first | assumption | rfl) ?_))
        | (go_at_call 145; go_must (refine (l01Seeds_any _ _).mono ?_); rintro e w_ ⟨rfl, rfl⟩; rw [HSD.out]))
      go_ret
      exact ⟨ret_int HC.out.symm, by rw [HA.out]; simpa only [World.drewN_drewN] using M.out.arg HB.out, grown_below (by simpa only [World.drewN_drewN] using M.out.below)⟩
    · have hcode : F.code ⟨a, k, d⟩ = 0 := by simp [Fld.code, hp, hh, hkd, hq, ha]
      have HC := Lib.hid hcode
      have HA := Lib.hid (show F.after ⟨a, k, d⟩ = F.withSeed k (F.seed k - d) by simp [Fld.after, hcode, Fld.made, ha])
      clear hp hcode hx hh hpl hkd
      go_enter Try.func136, Try.ntmps136
      simp only [Entry.vals]
      go_wp2_with (first
        | ((with_reducible refine gate_dst (N := 3) rfl ?_); go_must (refine M.out.ev_new rfl (by first | (go_simp; done) | (go_simp; rfl)) ?_); intro g3 w3 m; simp only [List.cons_append, List.nil_append] at m; have M := Lib.hid m; clear m; try have q0_1 := M.out.cell (j := 1) 0 rfl (by first | assumption | rfl); try have q0_2 := M.out.cell (j := 2) 0 rfl (by first | assumption | rfl))
        | ((with_reducible refine gate_dst (N := 6) rfl ?_); go_must (refine M.out.ev_ldw 0 _ _ rfl rfl rfl Try.underlying130 rfl (by first | exact sz130 | (rw [S1.out]; exact sz130) | (rw [S2.out]; exact sz130) | (rw [S3.out]; exact sz130)) rfl ?_))
        | ((with_reducible refine gate_dst (N := 19) rfl ?_); go_must (refine M.out.ev_ld 0 _ _ rfl rfl rfl Try.underlying24 rfl rfl (by first | assumption | rfl) ?_))
        | ((with_reducible refine gate_dst (N := 41) rfl ?_); go_must (refine M.out.ev_ld 0 _ _ rfl rfl rfl Try.underlying24 rfl rfl (by first | assumption | rfl) ?_))
        | ((with_reducible refine gate_dst (N := 49) rfl ?_); go_must (refine M.out.ev_ld 0 _ _ rfl rfl rfl Try.underlying22 rfl rfl (by first | assumption | rfl) ?_))
        | ((with_reducible refine gate_dst (N := 62) rfl ?_); go_must (refine M.out.ev_ld 0 _ _ rfl rfl rfl Try.underlying22 rfl rfl (by first | assumption | rfl) ?_))
        | ((with_reducible refine gate_dst (N := 66) rfl ?_); go_must (refine M.out.ev_ld 0 _ _ rfl rfl rfl Try.underlying24 rfl rfl (by first | assumption | rfl) ?_))
        | ((with_reducible refine gate_dst (N := 72) rfl ?_); go_must (refine M.out.ev_ld 0 _ _ rfl rfl rfl Try.underlying24 rfl rfl (by first | assumption | rfl) ?_))
        | ((with_reducible refine gate_dst (N := 80) rfl ?_); go_must (refine M.out.ev_ld 0 _ _ rfl rfl rfl Try.underlying24 rfl rfl (by first | assumption | rfl) ?_))
        | ((with_reducible refine gate_dst (N := 27) rfl ?_); go_must (refine M.out.ev_ld 0 _ _ rfl rfl rfl Try.underlying24 rfl rfl (by first | assumption | rfl) ?_))
        | ((with_reducible refine gate_dst (N := 33) rfl ?_); go_must (refine M.out.ev_ld 0 _ _ rfl rfl rfl Try.underlying24 rfl rfl (by first | assumption | rfl) ?_))
        | (go_at_call 146; go_must (refine (l07Entry_any ⟨a, k, d⟩ HX.out _).mono ?_); rintro e w_ ⟨rfl, N_⟩; rw [HP.out]; have m := M.out.join N_; clear N_; simp only [List.append_nil] at m; have M := Lib.hid m; clear m; have q0_0 := M.out.cell (j := 0) 0 rfl rfl; have q0_1 := M.out.cell (j := 1) 0 rfl rfl; have q0_2 := M.out.cell (j := 2) 0 rfl rfl; have r1 := M.out.argcell hk1; have r2 := M.out.argcell hk2)
        | (go_at_call 58; go_must (refine (l01Is_any b F HF.out k _ (M.out.arg HB.out)).mono ?_); rintro e w_ ⟨rfl, rfl⟩; rw [HH.out]))
      go_quiet (fail)
      have M := Lib.hid (M.out.drewN nq)
      try simp only [World.drewN_drewN] at M
      go_wp2
      go_quiet (fail)
      have M := Lib.hid (M.out.drewN nq)
      try simp only [World.drewN_drewN] at M
      have q0_0 := M.out.cell (j := 0) 0 rfl rfl
      have q0_2 := M.out.cell (j := 2) 0 rfl rfl
      go_wp2_with (first
        | ((with_reducible refine gate_dst (N := 3) rfl ?_); go_must (refine M.out.ev_new rfl (by first | (go_simp; done) | (go_simp; rfl)) ?_); intro g3 w3 m; simp only [List.cons_append, List.nil_append] at m; have M := Lib.hid m; clear m; try have q0_1 := M.out.cell (j := 1) 0 rfl (by first | assumption | rfl); try have q0_2 := M.out.cell (j := 2) 0 rfl (by first | assumption | rfl))
        | ((with_reducible refine gate_dst (N := 6) rfl ?_); go_must (refine M.out.ev_ldw 0 _ _ rfl rfl rfl Try.underlying130 rfl (by first | exact sz130 | (rw [S1.out]; exact sz130) | (rw [S2.out]; exact sz130) | (rw [S3.out]; exact sz130)) rfl ?_))
        | ((with_reducible refine gate_dst (N := 19) rfl ?_); go_must (refine M.out.ev_ld 0 _ _ rfl rfl rfl Try.underlying24 rfl rfl (by first | assumption | rfl) ?_))
        | ((with_reducible refine gate_dst (N := 41) rfl ?_); go_must (refine M.out.ev_ld 0 _ _ rfl rfl rfl Try.underlying24 rfl rfl (by first | assumption | rfl) ?_))
        | ((with_reducible refine gate_dst (N := 49) rfl ?_); go_must (refine M.out.ev_ld 0 _ _ rfl rfl rfl Try.underlying22 rfl rfl (by first | assumption | rfl) ?_))
        | ((with_reducible refine gate_dst (N := 62) rfl ?_); go_must (refine M.out.ev_ld 0 _ _ rfl rfl rfl Try.underlying22 rfl rfl (by first | assumption | rfl) ?_))
        | ((with_reducible refine gate_dst (N := 66) rfl ?_); go_must (refine M.out.ev_ld 0 _ _ rfl rfl rfl Try.underlying24 rfl rfl (by first | assumption | rfl) ?_))
        | ((with_reducible refine gate_dst (N := 72) rfl ?_); go_must (refine M.out.ev_ld 0 _ _ rfl rfl rfl Try.underlying24 rfl rfl (by first | assumption | rfl) ?_))
        | ((with_reducible refine gate_dst (N := 80) rfl ?_); go_must (refine M.out.ev_ld 0 _ _ rfl rfl rfl Try.underlying24 rfl rfl (by first | assumption | rfl) ?_))
        | ((with_reducible refine gate_dst (N := 27) rfl ?_); go_must (refine M.out.ev_ld 0 _ _ rfl rfl rfl Try.underlying24 rfl rfl (by first | assumption | rfl) ?_))
        | ((with_reducible refine gate_dst (N := 33) rfl ?_); go_must (refine M.out.ev_ld 0 _ _ rfl rfl rfl Try.underlying24 rfl rfl (by first | assumption | rfl) ?_))
        | (go_at_call 145; go_must (refine (l01Seeds_any _ _).mono ?_); rintro e w_ ⟨rfl, rfl⟩; rw [HSD.out]))
      go_still_tail 13, (by kernel_rfl)
      have B := Lib.hid (M.out.drew.arg HB.out)
      try simp only [World.drewN_drewN] at B
      try simp only [World.drewN_drewN] at M
      refine ev_put 24 (.tmp 37) (.tmp 34) rfl rfl B.out rfl (.int .i16 (IntKind.i16.wrap (F.seed k - d))) rfl (by rw [Fld.size HF.out.toLen]; omega) sz24 rfl rfl ?_
      intro w2 b2 hU
      rw [wrap16 (by omega) (by omega), Fld.setSeed HF.out.toLen] at b2
      have B2 := Lib.hid b2
      clear b2
      go_wp2
      go_ret
      exact ⟨ret_int HC.out.symm, by rw [HA.out]; exact B2.out, grown_upd M.out.drew.below hU⟩
end Go.Proofs.Yteecfclccfhdhaa
