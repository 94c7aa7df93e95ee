/- Texts of a proof, laid together: DutW. -/
import Derived.Test.YtjkclggdaafmaaaZD23
namespace Go.Proofs.Ytjkclggdaafmaaa
set_option linter.unusedSimpArgs false
set_option linter.unusedVariables false
open Go.RowKit
attribute [local go_sem] cell?_mk frozen?_mk
--ONES exact Fld.one _ | exact Prices.one _ | exact Cs.one _

set_option maxRecDepth 100000 in
set_option maxHeartbeats 8000000 in
theorem FnDuties_any (A B : Option Addr) (na nb : Nat) (bs cs : List Int) (hb : ∀ x ∈ bs, U8.ok x) (hc : ∀ x ∈ cs, U8.ok x) (hbl : bs.length ≤ 3000) (hcl : cs.length ≤ 3000) (w : World) (hs : Sl w 1 A bs.length (flat oneB bs)) (ht : Sl w 1 B cs.length (flat oneB cs)) :
    Calls Try.prog 4 #[.slice A bs.length na, .slice B cs.length nb] w fun e w' => e = .returned (.bool true) ∧ Mem w w' [] := by
  have M := Lib.hid (Mem.start w)
  have HS := Lib.hid hs
  have HT := Lib.hid ht
  have YB := Lib.hid (U8.bytes hb (by omega))
  have YC := Lib.hid (U8.bytes hc (by omega))
  have G1 := Lib.hid (show (decide (3000 < bs.length) || decide (3000 < cs.length)) = false by rw [decide_eq_false (by omega), decide_eq_false (by omega)]; rfl)
  clear hs ht hb hc hbl hcl
  go_enter Try.func4, Try.ntmps4
  go_wp2_with (first
    | ((with_reducible refine gate_dst (N := 5) rfl ?_); go_must (refine M.out.ev_new rfl (by first | (go_simp; done) | (go_simp; rfl)) ?_); intro g5 w5 m; simp only [List.cons_append, List.nil_append] at m; have M := Lib.hid m; clear m)
    | ((with_reducible refine gate_store (x := .tmp 5) rfl ?_); go_must (refine M.out.ev_stw 0 _ _ _ rfl rfl rfl rfl _ rfl (by first | rfl | (simp only [S1.out]; rfl) | (simp only [S1.out, S2.out]; rfl) | (simp only [S3.out]; rfl) | (simp only [S1.out, S2.out, S3.out]; rfl)) (by first | exact sz35 | (rw [S1.out]; exact sz35) | (rw [S2.out]; exact sz35) | (rw [S3.out]; exact sz35)) (by first | exact ints_one _ _ | exact Fld.one _ | exact O1.out | exact Fld.one _ | exact Prices.one _ | exact Cs.one _ | rfl | (simp [Value.oneCell']; done)) rfl ?_); intro wn m; simp only [List.set_cons_succ, List.set_cons_zero, List.setIfInBounds_toArray] at m; have M := Lib.hid m; clear m)
    | ((with_reducible refine gate_dst (N := 6) rfl ?_); go_must (refine M.out.ev_new rfl (by first | (go_simp; done) | (go_simp; rfl)) ?_); intro g6 w6 m; simp only [List.cons_append, List.nil_append] at m; have M := Lib.hid m; clear m)
    | ((with_reducible refine gate_store (x := .tmp 6) rfl ?_); go_must (refine M.out.ev_stw 1 _ _ _ rfl rfl rfl rfl _ rfl (by first | rfl | (simp only [S1.out]; rfl) | (simp only [S1.out, S2.out]; rfl) | (simp only [S3.out]; rfl) | (simp only [S1.out, S2.out, S3.out]; rfl)) (by first | exact sz37 | (rw [S1.out]; exact sz37) | (rw [S2.out]; exact sz37) | (rw [S3.out]; exact sz37)) (by first | exact ints_one _ _ | exact Fld.one _ | exact O1.out | exact Fld.one _ | exact Prices.one _ | exact Cs.one _ | rfl | (simp [Value.oneCell']; done)) rfl ?_); intro wn m; simp only [List.set_cons_succ, List.set_cons_zero, List.setIfInBounds_toArray] at m; have M := Lib.hid m; clear m)
    | ((with_reducible refine gate_dst (N := 50) rfl ?_); go_must (refine M.out.ev_ldw 0 _ _ rfl rfl rfl Try.underlying35 rfl (by first | exact sz35 | (rw [S1.out]; exact sz35) | (rw [S2.out]; exact sz35) | (rw [S3.out]; exact sz35)) rfl ?_))
    | ((with_reducible refine gate_dst (N := 7) rfl ?_); go_must (refine M.out.ev_new rfl (by first | (go_simp; done) | (go_simp; rfl)) ?_); intro g7 w7 m; simp only [List.cons_append, List.nil_append] at m; have M := Lib.hid m; clear m)
    | ((with_reducible refine gate_store (x := .tmp 7) rfl ?_); go_must (refine M.out.ev_stw 2 _ _ _ rfl rfl rfl rfl _ rfl (by first | rfl | (simp only [S1.out]; rfl) | (simp only [S1.out, S2.out]; rfl) | (simp only [S3.out]; rfl) | (simp only [S1.out, S2.out, S3.out]; rfl)) (by first | exact sz39 | (rw [S1.out]; exact sz39) | (rw [S2.out]; exact sz39) | (rw [S3.out]; exact sz39)) (by first | exact ints_one _ _ | exact Fld.one _ | exact O1.out | exact Fld.one _ | exact Prices.one _ | exact Cs.one _ | rfl | (simp [Value.oneCell']; done)) rfl ?_); intro wn m; simp only [List.set_cons_succ, List.set_cons_zero, List.setIfInBounds_toArray] at m; have M := Lib.hid m; clear m)
    | ((with_reducible refine gate_dst (N := 53) rfl ?_); go_must (refine M.out.ev_ldw 0 _ _ rfl rfl rfl Try.underlying35 rfl (by first | exact sz35 | (rw [S1.out]; exact sz35) | (rw [S2.out]; exact sz35) | (rw [S3.out]; exact sz35)) rfl ?_))
    | ((with_reducible refine gate_dst (N := 54) rfl ?_); go_must (refine M.out.ev_ldw 1 _ _ rfl rfl rfl Try.underlying37 rfl (by first | exact sz37 | (rw [S1.out]; exact sz37) | (rw [S2.out]; exact sz37) | (rw [S3.out]; exact sz37)) rfl ?_))
    | ((with_reducible refine gate_dst (N := 55) rfl ?_); go_must (refine M.out.ev_ldw 2 _ _ rfl rfl rfl Try.underlying39 rfl (by first | exact sz39 | (rw [S1.out]; exact sz39) | (rw [S2.out]; exact sz39) | (rw [S3.out]; exact sz39)) rfl ?_))
    | ((with_reducible refine gate_dst (N := 60) rfl ?_); go_must (refine M.out.ev_ldw 0 _ _ rfl rfl rfl Try.underlying35 rfl (by first | exact sz35 | (rw [S1.out]; exact sz35) | (rw [S2.out]; exact sz35) | (rw [S3.out]; exact sz35)) rfl ?_))
    | ((with_reducible refine gate_dst (N := 61) rfl ?_); go_must (refine M.out.ev_ldw 1 _ _ rfl rfl rfl Try.underlying37 rfl (by first | exact sz37 | (rw [S1.out]; exact sz37) | (rw [S2.out]; exact sz37) | (rw [S3.out]; exact sz37)) rfl ?_))
    | ((with_reducible refine gate_dst (N := 62) rfl ?_); go_must (refine M.out.ev_ldw 2 _ _ rfl rfl rfl Try.underlying39 rfl (by first | exact sz39 | (rw [S1.out]; exact sz39) | (rw [S2.out]; exact sz39) | (rw [S3.out]; exact sz39)) rfl ?_))
    | ((with_reducible refine gate_dst (N := 67) rfl ?_); go_must (refine M.out.ev_ldw 0 _ _ rfl rfl rfl Try.underlying35 rfl (by first | exact sz35 | (rw [S1.out]; exact sz35) | (rw [S2.out]; exact sz35) | (rw [S3.out]; exact sz35)) rfl ?_))
    | ((with_reducible refine gate_dst (N := 68) rfl ?_); go_must (refine M.out.ev_ldw 1 _ _ rfl rfl rfl Try.underlying37 rfl (by first | exact sz37 | (rw [S1.out]; exact sz37) | (rw [S2.out]; exact sz37) | (rw [S3.out]; exact sz37)) rfl ?_))
    | ((with_reducible refine gate_dst (N := 69) rfl ?_); go_must (refine M.out.ev_ldw 2 _ _ rfl rfl rfl Try.underlying39 rfl (by first | exact sz39 | (rw [S1.out]; exact sz39) | (rw [S2.out]; exact sz39) | (rw [S3.out]; exact sz39)) rfl ?_))
    | ((with_reducible refine gate_dst (N := 75) rfl ?_); go_must (refine M.out.ev_ldw 0 _ _ rfl rfl rfl Try.underlying35 rfl (by first | exact sz35 | (rw [S1.out]; exact sz35) | (rw [S2.out]; exact sz35) | (rw [S3.out]; exact sz35)) rfl ?_))
    | ((with_reducible refine gate_dst (N := 76) rfl ?_); go_must (refine M.out.ev_ldw 1 _ _ rfl rfl rfl Try.underlying37 rfl (by first | exact sz37 | (rw [S1.out]; exact sz37) | (rw [S2.out]; exact sz37) | (rw [S3.out]; exact sz37)) rfl ?_))
    | ((with_reducible refine gate_dst (N := 77) rfl ?_); go_must (refine M.out.ev_ldw 2 _ _ rfl rfl rfl Try.underlying39 rfl (by first | exact sz39 | (rw [S1.out]; exact sz39) | (rw [S2.out]; exact sz39) | (rw [S3.out]; exact sz39)) rfl ?_))
    | ((with_reducible refine gate_dst (N := 83) rfl ?_); go_must (refine M.out.ev_ldw 0 _ _ rfl rfl rfl Try.underlying35 rfl (by first | exact sz35 | (rw [S1.out]; exact sz35) | (rw [S2.out]; exact sz35) | (rw [S3.out]; exact sz35)) rfl ?_))
    | ((with_reducible refine gate_dst (N := 84) rfl ?_); go_must (refine M.out.ev_ldw 1 _ _ rfl rfl rfl Try.underlying37 rfl (by first | exact sz37 | (rw [S1.out]; exact sz37) | (rw [S2.out]; exact sz37) | (rw [S3.out]; exact sz37)) rfl ?_))
    | ((with_reducible refine gate_dst (N := 85) rfl ?_); go_must (refine M.out.ev_ldw 2 _ _ rfl rfl rfl Try.underlying39 rfl (by first | exact sz39 | (rw [S1.out]; exact sz39) | (rw [S2.out]; exact sz39) | (rw [S3.out]; exact sz39)) rfl ?_))
    | ((with_reducible refine gate_dst (N := 90) rfl ?_); go_must (refine M.out.ev_ldw 2 _ _ rfl rfl rfl Try.underlying39 rfl (by first | exact sz39 | (rw [S1.out]; exact sz39) | (rw [S2.out]; exact sz39) | (rw [S3.out]; exact sz39)) rfl ?_))
    | ((with_reducible refine gate_dst (N := 167) rfl ?_); go_must (refine M.out.ev_ldw 0 _ _ rfl rfl rfl Try.underlying35 rfl (by first | exact sz35 | (rw [S1.out]; exact sz35) | (rw [S2.out]; exact sz35) | (rw [S3.out]; exact sz35)) rfl ?_))
    | ((with_reducible refine gate_dst (N := 168) rfl ?_); go_must (refine M.out.ev_ldw 1 _ _ rfl rfl rfl Try.underlying37 rfl (by first | exact sz37 | (rw [S1.out]; exact sz37) | (rw [S2.out]; exact sz37) | (rw [S3.out]; exact sz37)) rfl ?_))
    | ((with_reducible refine gate_dst (N := 169) rfl ?_); go_must (refine M.out.ev_ldw 2 _ _ rfl rfl rfl Try.underlying39 rfl (by first | exact sz39 | (rw [S1.out]; exact sz39) | (rw [S2.out]; exact sz39) | (rw [S3.out]; exact sz39)) rfl ?_))
    | ((with_reducible refine gate_dst (N := 175) rfl ?_); go_must (refine M.out.ev_ldw 0 _ _ rfl rfl rfl Try.underlying35 rfl (by first | exact sz35 | (rw [S1.out]; exact sz35) | (rw [S2.out]; exact sz35) | (rw [S3.out]; exact sz35)) rfl ?_))
    | ((with_reducible refine gate_dst (N := 176) rfl ?_); go_must (refine M.out.ev_ldw 1 _ _ rfl rfl rfl Try.underlying37 rfl (by first | exact sz37 | (rw [S1.out]; exact sz37) | (rw [S2.out]; exact sz37) | (rw [S3.out]; exact sz37)) rfl ?_))
    | ((with_reducible refine gate_dst (N := 177) rfl ?_); go_must (refine M.out.ev_ldw 2 _ _ rfl rfl rfl Try.underlying39 rfl (by first | exact sz39 | (rw [S1.out]; exact sz39) | (rw [S2.out]; exact sz39) | (rw [S3.out]; exact sz39)) rfl ?_))
    | ((with_reducible refine gate_dst (N := 195) rfl ?_); go_must (refine M.out.ev_ldw 0 _ _ rfl rfl rfl Try.underlying35 rfl (by first | exact sz35 | (rw [S1.out]; exact sz35) | (rw [S2.out]; exact sz35) | (rw [S3.out]; exact sz35)) rfl ?_))
    | ((with_reducible refine gate_dst (N := 196) rfl ?_); go_must (refine M.out.ev_ldw 1 _ _ rfl rfl rfl Try.underlying37 rfl (by first | exact sz37 | (rw [S1.out]; exact sz37) | (rw [S2.out]; exact sz37) | (rw [S3.out]; exact sz37)) rfl ?_))
    | ((with_reducible refine gate_dst (N := 197) rfl ?_); go_must (refine M.out.ev_ldw 2 _ _ rfl rfl rfl Try.underlying39 rfl (by first | exact sz39 | (rw [S1.out]; exact sz39) | (rw [S2.out]; exact sz39) | (rw [S3.out]; exact sz39)) rfl ?_))
    | ((with_reducible refine gate_dst (N := 222) rfl ?_); go_must (refine M.out.ev_ldw 0 _ _ rfl rfl rfl Try.underlying35 rfl (by first | exact sz35 | (rw [S1.out]; exact sz35) | (rw [S2.out]; exact sz35) | (rw [S3.out]; exact sz35)) rfl ?_))
    | ((with_reducible refine gate_dst (N := 228) rfl ?_); go_must (refine M.out.ev_ldw 0 _ _ rfl rfl rfl Try.underlying35 rfl (by first | exact sz35 | (rw [S1.out]; exact sz35) | (rw [S2.out]; exact sz35) | (rw [S3.out]; exact sz35)) rfl ?_))
    | ((with_reducible refine gate_dst (N := 258) rfl ?_); go_must (refine M.out.ev_ldw 0 _ _ rfl rfl rfl Try.underlying35 rfl (by first | exact sz35 | (rw [S1.out]; exact sz35) | (rw [S2.out]; exact sz35) | (rw [S3.out]; exact sz35)) rfl ?_))
    | ((with_reducible refine gate_dst (N := 36) rfl ?_); go_must (refine M.out.ev_new rfl (by first | (go_simp; done) | (go_simp; rfl)) ?_); intro g36 w36 m; simp only [List.cons_append, List.nil_append] at m; have M := Lib.hid m; clear m)
    | ((with_reducible refine gate_store (x := .tmp 36) rfl ?_); go_must (refine M.out.ev_stw 7 _ _ _ rfl rfl rfl rfl _ rfl (by first | rfl | (simp only [S1.out]; rfl) | (simp only [S1.out, S2.out]; rfl) | (simp only [S3.out]; rfl) | (simp only [S1.out, S2.out, S3.out]; rfl)) (by first | exact sz39 | (rw [S1.out]; exact sz39) | (rw [S2.out]; exact sz39) | (rw [S3.out]; exact sz39)) (by first | exact ints_one _ _ | exact Fld.one _ | exact O1.out | exact Fld.one _ | exact Prices.one _ | exact Cs.one _ | rfl | (simp [Value.oneCell']; done)) rfl ?_); intro wn m; simp only [List.set_cons_succ, List.set_cons_zero, List.setIfInBounds_toArray] at m; have M := Lib.hid m; clear m)
    | ((with_reducible refine gate_dst (N := 267) rfl ?_); go_must (refine M.out.ev_ldw 0 _ _ rfl rfl rfl Try.underlying35 rfl (by first | exact sz35 | (rw [S1.out]; exact sz35) | (rw [S2.out]; exact sz35) | (rw [S3.out]; exact sz35)) rfl ?_))
    | ((with_reducible refine gate_dst (N := 268) rfl ?_); go_must (refine M.out.ev_ldw 1 _ _ rfl rfl rfl Try.underlying37 rfl (by first | exact sz37 | (rw [S1.out]; exact sz37) | (rw [S2.out]; exact sz37) | (rw [S3.out]; exact sz37)) rfl ?_))
    | ((with_reducible refine gate_dst (N := 282) rfl ?_); go_must (refine M.out.ev_ldw 7 _ _ rfl rfl rfl Try.underlying39 rfl (by first | exact sz39 | (rw [S1.out]; exact sz39) | (rw [S2.out]; exact sz39) | (rw [S3.out]; exact sz39)) rfl ?_))
    | (go_at_call 13; go_must (refine (a2Long_any A B bs.length cs.length na nb _).mono ?_); rintro e w_ ⟨rfl, rfl⟩; rw [G1.out])
    | (go_at_call 14; go_must (refine (A2Field_any A na bs YB.out _ (M.out.sl HS.out)).mono ?_); rintro e w_ ⟨F, rfl, hF, N_⟩; have m := M.out.join N_; clear N_; simp only [List.cons_append, List.nil_append, List.append_nil] at m; have M := Lib.hid m; clear m; have WF := Lib.hid hF; have S1 := Lib.hid (Fld.size hF.ok.toLen); clear hF)
    | (go_at_call 15; go_must (refine (A2Prices_any B nb cs YC.out _ (M.out.sl HT.out)).mono ?_); rintro e w_ ⟨p, rfl, hp, hg, N_⟩; have m := M.out.join N_; clear N_; simp only [List.cons_append, List.nil_append, List.append_nil] at m; have M := Lib.hid m; clear m; have HP := Lib.hid hp; have HG := Lib.hid hg; clear hp hg)
    | (go_at_call 16; go_must (refine (A2Targets_any B nb cs YC.out F WF.out _ (M.out.sl HT.out)).mono ?_); rintro e w_ ⟨s, rfl, hT, N_⟩; have m := M.out.join N_; clear N_; simp only [List.cons_append, List.nil_append, List.append_nil] at m; have M := Lib.hid m; clear m; obtain ⟨D, G, b, q, C_⟩ := dut_all WF.out HP.out HG.out hT; have TG := Lib.hid hT; have C := Lib.hid C_; have h5 := hT.len; have dl1 : D.length ≤ s.all.length := (by have := C_.dl; omega); have dl2 : s.all.length ≤ D.length := (by have := C_.dl; omega); have z1 : ((D.length : Int) != (s.all.length : Int)) = false := (by simp; omega); have z2 : decide (q < b) = false := decide_eq_false (by have := C_.bq; omega); have z3 : decide (s.all.length < G.length) = false := decide_eq_false (by have := C_.gl; omega); have d57 := C_.d1; have d00 := C_.d0; clear hT C_)
    | (go_at_call 17; go_must (refine (C.out.id _).mono ?_); rintro e w_ ⟨A1, c1, rfl, hc1, N_⟩; have m := M.out.join N_; clear N_; simp only [List.cons_append, List.nil_append, List.append_nil] at m; have M := Lib.hid m; clear m)
    | (go_at_call 18; go_must (refine (C.out.sd _).mono ?_); rintro e w_ ⟨A2, c2, rfl, hc2, N_⟩; have m := M.out.join N_; clear N_; simp only [List.cons_append, List.nil_append, List.append_nil] at m; have M := Lib.hid m; clear m)
    | (go_at_call 19; go_must (refine (C.out.cd _ _ _ (M.out.slof 4 rfl)).mono ?_); rintro e w_ ⟨rfl, N_⟩; have m := M.out.join N_; clear N_; simp only [List.cons_append, List.nil_append, List.append_nil] at m; have M := Lib.hid m; clear m)
    | (go_at_call 20; go_must (refine (C.out.db _ _ _ (M.out.slof 4 rfl)).mono ?_); rintro e w_ ⟨rfl, N_⟩; have m := M.out.join N_; clear N_; simp only [List.cons_append, List.nil_append, List.append_nil] at m; have M := Lib.hid m; clear m)
    | (go_at_call 21; go_must (refine (C.out.gr _).mono ?_); rintro e w_ ⟨A3, c3, rfl, hc3, N_⟩; have m := M.out.join N_; clear N_; simp only [List.cons_append, List.nil_append, List.append_nil] at m; have M := Lib.hid m; clear m)
    | (go_at_call 22; go_must (refine (specListOf_any s TG.out.ok _).mono ?_); rintro e w_ ⟨A4, c4, rfl, hc4, N_⟩; have m := M.out.join N_; clear N_; simp only [List.cons_append, List.nil_append, List.append_nil] at m; have M := Lib.hid m; clear m)
    | (go_at_call 23; go_must (refine (A2Same_any _ _ _ _ D _ (by omega) (M.out.slof 3 rfl) (M.out.slof 4 rfl)).mono ?_); rintro e w_ ⟨rfl, N_⟩; have m := M.out.join N_; clear N_; simp only [List.cons_append, List.nil_append, List.append_nil] at m; have M := Lib.hid m; clear m)
    )
  go_loopw [20, 21] (fun u v wr => ∃ i : Nat, i ≤ D.length ∧ v = .int .i64 i ∧ u = .int .i64 (duS (gi D) i) ∧ Mem w wr [.blk g5 35 F.cells, .blk g6 37 p.vals.toArray, .blk g7 39 s.cells, .row (.slice A2 D.length c2) 2 1 D.length (flat oneI D), .row (.slice A4 s.all.length c4) 2 1 s.all.length (flat one64 s.all)])
    (fun _ v _ => D.length - (intOf v).toNat)
  case atStart => exact ⟨0, by omega, rfl, rfl, M.out.only [0, 1, 2, 4, 6] (K := [_, _, _, _, _]) rfl (by decide)⟩
  case round =>
    clear M z1 z2 z3
    obtain ⟨i, hi, rfl, rfl, m⟩ := hrel
    have M := Lib.hid m
    clear m
    by_cases hit : i < D.length
    · have HGI := Lib.hid (gi_at hit)
      obtain ⟨ob, ooff, rfl, _⟩ := (M.out.slof 3 rfl).2 (by omega)
      have x1 := (M.out.slof 3 rfl).atI HGI.out
      have E1 := Lib.hid (show duS (gi D) (i + 1) = duS (gi D) i + gi D i from rfl)
      have CW := Lib.hid (C.out.cw i hit)
      have DW := Lib.hid (C.out.dw i hit)
      have sb := duS_b (ds := D) ⟨fun j => ⟨d00 j, by have := d57 j; omega⟩⟩ i
      have g0 := d00 i
      have g1 := d57 i
      have q0 : (0 : Int) ≤ (i : Int) := by omega
      have q1 : (i : Int) < (D.length : Int) := by omega
      have FS := Lib.hid (show (flat oneI D).set i (.int .i64 (gi D i + 1)) = flat oneI (D.set i (gi D i + 1)) by
        have h := flat_put oneI_len (j := 0) (v := .int .i64 (gi D i + 1)) (by decide) D i (gi D i) (gi D i + 1) HGI.out rfl
        rw [Nat.mul_one, Nat.add_zero] at h
        exact h)
      have HCE := Lib.hid (show (flat oneI D)[i]? = some (.int .i64 (gi D i)) by
        have h := flat_at oneI_len HGI.out (j := 0) (v := .int .i64 (gi D i)) rfl
        rw [Nat.mul_one, Nat.add_zero] at h
        exact h)
      have FL := Lib.hid (show i < (flat oneI D).length by rw [flat_len oneI_len, Nat.mul_one]; exact hit)
      obtain ⟨y, hy⟩ : ∃ y, y = gi D i := ⟨_, rfl⟩
      obtain ⟨t, ht⟩ : ∃ t, t = duS (gi D) i := ⟨_, rfl⟩
      rw [← hy] at HGI x1 CW DW g0 g1 FS HCE
      rw [← hy, ← ht] at E1
      rw [← ht] at sb ⊢
      clear hy ht
      have hn : ¬ (y < 0) := by omega
      have w1 : IntKind.i64.wrap (t + y) = t + y := IntWalk.i64_in _ (by omega)
      have w2 : IntKind.i64.wrap (y + 1) = y + 1 := IntWalk.i64_in _ (by omega)
      go_wp2_with (first
        | ((with_reducible refine gate_dst (N := 167) rfl ?_); go_must (refine M.out.ev_ldw 0 _ _ rfl rfl rfl Try.underlying35 rfl (by rw [S1.out]; exact sz35) rfl ?_))
        | ((with_reducible refine gate_dst (N := 168) rfl ?_); go_must (refine M.out.ev_ldw 1 _ _ rfl rfl rfl Try.underlying37 rfl sz37 rfl ?_))
        | ((with_reducible refine gate_dst (N := 169) rfl ?_); go_must (refine M.out.ev_ldw 2 _ _ rfl rfl rfl Try.underlying39 rfl sz39 rfl ?_))
        | ((with_reducible refine gate_dst (N := 175) rfl ?_); go_must (refine M.out.ev_ldw 0 _ _ rfl rfl rfl Try.underlying35 rfl (by rw [S1.out]; exact sz35) rfl ?_))
        | ((with_reducible refine gate_dst (N := 176) rfl ?_); go_must (refine M.out.ev_ldw 1 _ _ rfl rfl rfl Try.underlying37 rfl sz37 rfl ?_))
        | ((with_reducible refine gate_dst (N := 177) rfl ?_); go_must (refine M.out.ev_ldw 2 _ _ rfl rfl rfl Try.underlying39 rfl sz39 rfl ?_))
        | ((with_reducible refine gate_dst (N := 157) rfl ?_); go_must (refine M.out.ev_bs0 elem_int64 rfl rfl ?_); intro gv157 wv157 m; simp only [List.cons_append, List.nil_append] at m; have M := Lib.hid m; clear m)
        | ((with_reducible refine gate_dst (N := 159) rfl ?_); go_must (refine M.out.ev_appends 5 elem_int64 rfl _ _ rfl rfl rfl rfl (M.out.slof 3 rfl) (M.out.row_none 3 rfl) (by omega) (flat_one oneI_ones _) (by omega) (by decide) ?_); intro v159 w159 m; simp only [List.set_cons_succ, List.set_cons_zero, List.nil_append, Nat.zero_add] at m; obtain ⟨g159, cap159, rfl, hc159⟩ := m.row_form 5 rfl (by omega); have x2 := m.row_cell 5 rfl (HCE.out); have M := Lib.hid m; clear m)
        | ((with_reducible refine gate_store (x := .tmp 165) rfl ?_); go_must (refine M.out.ev_rput1 5 _ _ _ rfl rfl rfl rfl (.int .i64 (y + 1)) rfl FL.out sz2 rfl rfl ?_); intro wn m; simp only [List.set_cons_succ, List.set_cons_zero, FS.out] at m; have M := Lib.hid m; clear m)
        | (go_at_call 19; go_must (refine (CW.out _ _ _ (M.out.slof 5 rfl)).mono ?_); rintro e w_ ⟨rfl, N_⟩; have m := M.out.join N_; clear N_; simp only [List.cons_append, List.nil_append, List.append_nil] at m; have M := Lib.hid m; clear m)
        | (go_at_call 20; go_must (refine (DW.out _ _ _ (M.out.slof 5 rfl)).mono ?_); rintro e w_ ⟨rfl, N_⟩; have m := M.out.join N_; clear N_; simp only [List.cons_append, List.nil_append, List.append_nil] at m; have M := Lib.hid m; clear m)
        )
      exact ⟨⟨i + 1, by omega, by go_num, by rw [E1.out], M.out.take 5⟩, by simp [intOf]; try omega⟩
    · obtain rfl : i = D.length := by omega
      rw [C.out.bs]
      obtain ⟨R, l, z, hz, hR⟩ := C.out.ch
      have CH := Lib.hid hR
      have i9 : ¬ ((D.length : Int) < (D.length : Int)) := by omega
      have sb := duS_b (ds := D) ⟨fun j => ⟨d00 j, by have := d57 j; omega⟩⟩
      have HZ := Lib.hid hz
      clear hR hz
      by_cases hn : s.all.length = 0
      · have hD : D.length = 0 := by omega
        have hb0 := C.out.bs
        rw [hD] at hb0
        obtain rfl : b = 0 := hb0.symm
        have n0 : ((s.all.length : Int) == 0) = true := by rw [beq_iff_eq]; omega
        clear hb0 hD hn
        by_cases hz0 : z = 0
        · have zl : decide (l < 0) = false := decide_eq_false (by have := HZ.out hz0; omega)
          subst hz0
          go_wp2_with (first
            | ((with_reducible refine gate_dst (N := 195) rfl ?_); go_must (refine M.out.ev_ldw 0 _ _ rfl rfl rfl Try.underlying35 rfl (by rw [S1.out]; exact sz35) rfl ?_))
            | ((with_reducible refine gate_dst (N := 196) rfl ?_); go_must (refine M.out.ev_ldw 1 _ _ rfl rfl rfl Try.underlying37 rfl sz37 rfl ?_))
            | ((with_reducible refine gate_dst (N := 197) rfl ?_); go_must (refine M.out.ev_ldw 2 _ _ rfl rfl rfl Try.underlying39 rfl sz39 rfl ?_))
            | (go_at_call 5; go_must (refine (CH.out _).mono ?_); rintro e w_ ⟨A5, c5, rfl, hc5, N_⟩; have m := M.out.join N_; clear N_; simp only [List.cons_append, List.nil_append, List.append_nil] at m; have M := Lib.hid m; clear m)
            )
          go_ret
          exact ⟨rfl, M.out.take 0⟩
        · have zf : (z == 0) = false := by rw [beq_eq_false_iff_ne]; exact hz0
          go_wp2_with (first
            | ((with_reducible refine gate_dst (N := 195) rfl ?_); go_must (refine M.out.ev_ldw 0 _ _ rfl rfl rfl Try.underlying35 rfl (by rw [S1.out]; exact sz35) rfl ?_))
            | ((with_reducible refine gate_dst (N := 196) rfl ?_); go_must (refine M.out.ev_ldw 1 _ _ rfl rfl rfl Try.underlying37 rfl sz37 rfl ?_))
            | ((with_reducible refine gate_dst (N := 197) rfl ?_); go_must (refine M.out.ev_ldw 2 _ _ rfl rfl rfl Try.underlying39 rfl sz39 rfl ?_))
            | (go_at_call 5; go_must (refine (CH.out _).mono ?_); rintro e w_ ⟨A5, c5, rfl, hc5, N_⟩; have m := M.out.join N_; clear N_; simp only [List.cons_append, List.nil_append, List.append_nil] at m; have M := Lib.hid m; clear m)
            )
          go_ret
          exact ⟨rfl, M.out.take 0⟩
      · have n0 : ((s.all.length : Int) == 0) = false := by rw [beq_eq_false_iff_ne]; omega
        have n1 : (1 : Int) ≤ (s.all.length : Int) := by omega
        clear hn
        by_cases hz0 : z = 0
        · have zl : decide (l < b) = false := decide_eq_false (by have := HZ.out hz0; omega)
          subst hz0
          go_wp2_with (first
            | ((with_reducible refine gate_dst (N := 195) rfl ?_); go_must (refine M.out.ev_ldw 0 _ _ rfl rfl rfl Try.underlying35 rfl (by rw [S1.out]; exact sz35) rfl ?_))
            | ((with_reducible refine gate_dst (N := 196) rfl ?_); go_must (refine M.out.ev_ldw 1 _ _ rfl rfl rfl Try.underlying37 rfl sz37 rfl ?_))
            | ((with_reducible refine gate_dst (N := 197) rfl ?_); go_must (refine M.out.ev_ldw 2 _ _ rfl rfl rfl Try.underlying39 rfl sz39 rfl ?_))
            | (go_at_call 5; go_must (refine (CH.out _).mono ?_); rintro e w_ ⟨A5, c5, rfl, hc5, N_⟩; have m := M.out.join N_; clear N_; simp only [List.cons_append, List.nil_append, List.append_nil] at m; have M := Lib.hid m; clear m)
            | ((with_reducible refine gate_dst (N := 222) rfl ?_); go_must (refine M.out.ev_ldw 0 _ _ rfl rfl rfl Try.underlying35 rfl (by rw [S1.out]; exact sz35) rfl ?_))
            | ((with_reducible refine gate_dst (N := 228) rfl ?_); go_must (refine M.out.ev_ldw 0 _ _ rfl rfl rfl Try.underlying35 rfl (by rw [S1.out]; exact sz35) rfl ?_))
            | (go_at_call 24; go_must (refine (a2At_any B nb cs YC.out (s.all.length : Int) n1 _ (M.out.sl HT.out)).mono ?_); rintro e w_ ⟨r, rfl, r0, r1, rfl⟩; obtain ⟨j, hj, hjl⟩ := among_nat r0 r1; subst hj; obtain ⟨k, ns, hk, hk1, DA_⟩ := dutAt C.out hjl; have DA := Lib.hid DA_; obtain ⟨lb, loff, rfl, _⟩ := (M.out.slof 4 rfl).2 (by omega); have x1 := (M.out.slof 4 rfl).at64 hk; have HK := Lib.hid hk; have m1 : ((ns.length : Int) == 0) = false := (by have := DA_.n0; rw [beq_eq_false_iff_ne]; omega); have ln1 := DA_.n1; clear hk DA_ r0 r1)
            | (go_at_call 25; go_must (refine (DA.out.ia _).mono ?_); rintro e w_ ⟨A6, c6, rfl, hc6, N_⟩; have m := M.out.join N_; clear N_; simp only [List.cons_append, List.nil_append, List.append_nil] at m; have M := Lib.hid m; clear m)
            | (go_at_call 26; go_must (refine (DA.out.sa _).mono ?_); rintro e w_ ⟨A7, c7, rfl, hc7, N_⟩; have m := M.out.join N_; clear N_; simp only [List.cons_append, List.nil_append, List.append_nil] at m; have M := Lib.hid m; clear m)
            | (go_at_call 27; go_must (refine (NetSame_any _ _ _ _ ns _ (by omega) (M.out.slof 6 rfl) (M.out.slof 7 rfl)).mono ?_); rintro e w_ ⟨rfl, N_⟩; have m := M.out.join N_; clear N_; simp only [List.cons_append, List.nil_append, List.append_nil] at m; have M := Lib.hid m; clear m)
            )
          have QQ := Lib.hid (show ∀ x ∈ ns, dTo x s.all D D.length ≤ netCost p x ∧ (netSet x).has k = true from fun x hx => ⟨DA.out.fe x hx, DA.out.in_ x hx⟩)
          go_loopw [35] (fun v wr => ∃ i : Nat, i ≤ ns.length ∧ v = .int .i64 i ∧ Mem w wr [.blk g5 35 F.cells, .blk g6 37 p.vals.toArray, .blk g7 39 s.cells, .row (.slice A2 D.length c2) 2 1 D.length (flat oneI D), .row (.slice (some ⟨lb, loff, none⟩) s.all.length c4) 2 1 s.all.length (flat one64 s.all), .row (.slice A7 ns.length c7) 65 4 ns.length (flat Net.vals ns)])
            (fun v _ => ns.length - (intOf v).toNat)
          case atStart => exact ⟨0, by omega, rfl, M.out.only [0, 1, 2, 3, 4, 7] (K := [_, _, _, _, _, _]) rfl (by decide)⟩
          case round =>
            clear M x1
            obtain ⟨i, hi, rfl, m⟩ := hrel
            have M := Lib.hid m
            clear m
            by_cases hit : i < ns.length
            · obtain ⟨nb_, noff, rfl, _⟩ := (M.out.slof 5 rfl).2 (by omega)
              have HXK := Lib.hid (show ns[i]? = some ns[i] from List.getElem?_eq_getElem hit)
              have hxm : ns[i] ∈ ns := List.getElem_mem hit
              have CU := Lib.hid (DA.out.cu _ hxm)
              have CO_ := Lib.hid (DA.out.co _ hxm)
              obtain ⟨hfe, hin⟩ := QQ.out _ hxm
              have q0 : (0 : Int) ≤ (i : Int) := by omega
              have q1 : (i : Int) < (ns.length : Int) := by omega
              obtain ⟨x, hx⟩ : ∃ x, x = ns[i] := ⟨_, rfl⟩
              rw [← hx] at HXK CU CO_ hfe hin
              have NS := Lib.hid (show (netSet x).ok from pset_ok _)
              have HIN := Lib.hid hin
              have hfd : decide (netCost p x < dTo x s.all D D.length) = false := decide_eq_false (by omega)
              have HDB := Lib.hid (fun j => dTo_b x s.all (ds := D) ⟨fun j => ⟨d00 j, by have := d57 j; omega⟩⟩ j)
              obtain ⟨a, ha⟩ : ∃ a, a = netCost p x := ⟨_, rfl⟩
              rw [← ha] at CO_ hfe hfd
              clear hx hxm hin ha hfe
              have HFD := Lib.hid hfd
              clear hfd
              go_wp2
              refine region_anyH (fun w' => Mem w w' [.blk g5 35 F.cells, .blk g6 37 p.vals.toArray, .blk g7 39 s.cells, .row (.slice A2 D.length c2) 2 1 D.length (flat oneI D), .row (.slice (some ⟨lb, loff, none⟩) s.all.length c4) 2 1 s.all.length (flat one64 s.all), .row (.slice (some ⟨nb_, noff, none⟩) ns.length c7) 65 4 ns.length (flat Net.vals ns)]) (by kernel_rfl) ?_
              have M9 := M.out.drew
              clear M
              apply merge1
              case hA =>
                intro REST0
                apply merge1
                case hA =>
                  intro REST1
                  have M := Lib.hid M9
                  apply takeH (i := 0) 258 rfl (by kernel_rfl) (by kernel_rfl) (by kernel_rfl) (fun _ _ _ h => h) rfl (by first | exact M.out | exact M.out.take 6)
                  case' hy => exact yldw _ _ rfl rfl Try.underlying35 rfl (by first | exact sz35 | (rw [S1.out]; exact sz35) | (rw [S2.out]; exact sz35) | (rw [S3.out]; exact sz35)) rfl (fun w' hS => hS.blk 0 rfl)
                  try simp only [Act.put, List.getElem_toArray, List.getElem_cons_succ, List.getElem_cons_zero, List.setIfInBounds_toArray, List.set_cons_succ, List.set_cons_zero]
                  apply takeH (i := 1) 259 rfl (by kernel_rfl) (by kernel_rfl) (by kernel_rfl) (fun _ _ _ h => h) rfl (by first | exact M.out | exact M.out.take 6)
                  case' hy =>
                    refine Or.inl ⟨by first | rfl | (go_simp; done), ?_⟩
                    intro w hS
                    clear hS
                    go_simp
                    try with_reducible rfl
                  try simp only [Act.put, List.getElem_toArray, List.getElem_cons_succ, List.getElem_cons_zero, List.setIfInBounds_toArray, List.set_cons_succ, List.set_cons_zero]
                  apply takeH (i := 2) 260 rfl (by kernel_rfl) (by kernel_rfl) (by kernel_rfl) (fun _ _ _ h => h) rfl (by first | exact M.out | exact M.out.take 6)
                  case' hy =>
                    refine Or.inl ⟨by first | rfl | (go_simp; done), ?_⟩
                    intro w hS
                    clear hS
                    go_simp
                    try with_reducible rfl
                  try simp only [Act.put, List.getElem_toArray, List.getElem_cons_succ, List.getElem_cons_zero, List.setIfInBounds_toArray, List.set_cons_succ, List.set_cons_zero]
                  apply takeH (i := 3) 261 rfl (by kernel_rfl) (by kernel_rfl) (by kernel_rfl) (fun _ _ _ h => h) rfl (by first | exact M.out | exact M.out.take 6)
                  case' hy =>
                    refine Or.inl ⟨by first | rfl | (go_simp; done), ?_⟩
                    intro w hS
                    clear hS
                    go_simp
                    try with_reducible rfl
                  try simp only [Act.put, List.getElem_toArray, List.getElem_cons_succ, List.getElem_cons_zero, List.setIfInBounds_toArray, List.set_cons_succ, List.set_cons_zero]
                  apply takeH (i := 4) 262 rfl (by kernel_rfl) (by kernel_rfl) (by kernel_rfl) (fun _ _ _ h => h) rfl (by first | exact M.out | exact M.out.take 6)
                  case' hy => exact yieldsIf_load_mid (by first | rfl | (go_simp; done)) _ _ rfl _ _ rfl _ _ (fun w' hS => range_at Net.vl (sl_range (hS.slof 5 rfl) hit) HXK.out) Try.underlying65 rfl sz65
                  try simp only [Act.put, List.getElem_toArray, List.getElem_cons_succ, List.getElem_cons_zero, List.setIfInBounds_toArray, List.set_cons_succ, List.set_cons_zero]
                  refine any2H 5 9 (by kernel_rfl) rfl rfl (fun K hK => ?_) (fun K hK => ?_)
                  rotate_right 1
                  case' _ =>
                    go_wp2_with (first | ((with_reducible refine gate_dst (N := 36) rfl ?_); go_must (refine M.out.ev_new rfl (by first | (go_simp; done) | (go_simp; rfl)) ?_); intro g36 w36 m; simp only [List.cons_append, List.nil_append] at m; have M := Lib.hid m; clear m))
                    refine onward_normal (hK _ _ ⟨(by first | exact M.out | exact M.out.take 6), ?_⟩)
                    clear hK K
                    try simp only [Act.put, List.getElem_toArray, List.getElem_cons_succ, List.getElem_cons_zero, List.setIfInBounds_toArray, List.set_cons_succ, List.set_cons_zero]
                    refine any1H 5 (by kernel_rfl) rfl (fun K hK => ?_)
                    go_wp2_with (first | (go_at_call 28; go_must (refine (CU.out _).mono ?_); rintro e w_ ⟨rfl, N_⟩; have m := M.out.join N_; clear N_; simp only [List.cons_append, List.nil_append, List.append_nil] at m; have M := Lib.hid m; clear m))
                    refine onward_normal (hK _ _ ⟨(by first | exact M.out | exact M.out.take 6), ?_⟩)
                    clear hK K
                    try simp only [Act.put, List.getElem_toArray, List.getElem_cons_succ, List.getElem_cons_zero, List.setIfInBounds_toArray, List.set_cons_succ, List.set_cons_zero]
                    apply takeH (i := 6) 257 rfl (by kernel_rfl) (by kernel_rfl) (by kernel_rfl) (fun _ _ _ h => h) rfl (by first | exact M.out | exact M.out.take 6)
                    case' hy =>
                      refine Or.inl ⟨by first | rfl | (go_simp; done), ?_⟩
                      intro w hS
                      clear hS
                      go_simp
                      try with_reducible rfl
                    try simp only [Act.put, List.getElem_toArray, List.getElem_cons_succ, List.getElem_cons_zero, List.setIfInBounds_toArray, List.set_cons_succ, List.set_cons_zero]
                    apply takeH (i := 7) 264 rfl (by kernel_rfl) (by kernel_rfl) (by kernel_rfl) (fun _ _ _ h => h) rfl (by first | exact M.out | exact M.out.take 6)
                    case' hy =>
                      refine Or.inl ⟨by first | rfl | (go_simp; done), ?_⟩
                      intro w hS
                      clear hS
                      go_simp
                      try with_reducible rfl
                    try simp only [Act.put, List.getElem_toArray, List.getElem_cons_succ, List.getElem_cons_zero, List.setIfInBounds_toArray, List.set_cons_succ, List.set_cons_zero]
                    apply takeH (i := 8) 265 rfl (by kernel_rfl) (by kernel_rfl) (by kernel_rfl) (fun _ _ _ h => h) rfl (by first | exact M.out | exact M.out.take 6)
                    case' hy =>
                      refine Or.inl ⟨by first | rfl | (go_simp; done), ?_⟩
                      intro w hS
                      clear hS
                      go_simp
                      try with_reducible rfl
                    try simp only [Act.put, List.getElem_toArray, List.getElem_cons_succ, List.getElem_cons_zero, List.setIfInBounds_toArray, List.set_cons_succ, List.set_cons_zero]
                    exact REST1 g36 w_ M.out
                  rotate_right 1
                  case' _ =>
                    go_wp2_with (first | (go_at_call 28; go_must (refine (CU.out _).mono ?_); rintro e w_ ⟨rfl, N_⟩; have m := M.out.join N_; clear N_; simp only [List.cons_append, List.nil_append, List.append_nil] at m; have M := Lib.hid m; clear m))
                    refine onward_normal (hK _ _ ⟨(by first | exact M.out | exact M.out.take 6), ?_⟩)
                    clear hK K
                    try simp only [Act.put, List.getElem_toArray, List.getElem_cons_succ, List.getElem_cons_zero, List.setIfInBounds_toArray, List.set_cons_succ, List.set_cons_zero]
                    apply takeH (i := 6) 257 rfl (by kernel_rfl) (by kernel_rfl) (by kernel_rfl) (fun _ _ _ h => h) rfl (by first | exact M.out | exact M.out.take 6)
                    case' hy =>
                      refine Or.inl ⟨by first | rfl | (go_simp; done), ?_⟩
                      intro w hS
                      clear hS
                      go_simp
                      try with_reducible rfl
                    try simp only [Act.put, List.getElem_toArray, List.getElem_cons_succ, List.getElem_cons_zero, List.setIfInBounds_toArray, List.set_cons_succ, List.set_cons_zero]
                    apply takeH (i := 7) 264 rfl (by kernel_rfl) (by kernel_rfl) (by kernel_rfl) (fun _ _ _ h => h) rfl (by first | exact M.out | exact M.out.take 6)
                    case' hy =>
                      refine Or.inl ⟨by first | rfl | (go_simp; done), ?_⟩
                      intro w hS
                      clear hS
                      go_simp
                      try with_reducible rfl
                    try simp only [Act.put, List.getElem_toArray, List.getElem_cons_succ, List.getElem_cons_zero, List.setIfInBounds_toArray, List.set_cons_succ, List.set_cons_zero]
                    apply takeH (i := 8) 265 rfl (by kernel_rfl) (by kernel_rfl) (by kernel_rfl) (fun _ _ _ h => h) rfl (by first | exact M.out | exact M.out.take 6)
                    case' hy =>
                      refine Or.inl ⟨by first | rfl | (go_simp; done), ?_⟩
                      intro w hS
                      clear hS
                      go_simp
                      try with_reducible rfl
                    try simp only [Act.put, List.getElem_toArray, List.getElem_cons_succ, List.getElem_cons_zero, List.setIfInBounds_toArray, List.set_cons_succ, List.set_cons_zero]
                    refine any1H 9 (by kernel_rfl) rfl (fun K hK => ?_)
                    go_wp2_with (first | ((with_reducible refine gate_dst (N := 36) rfl ?_); go_must (refine M.out.ev_new rfl (by first | (go_simp; done) | (go_simp; rfl)) ?_); intro g36 w36 m; simp only [List.cons_append, List.nil_append] at m; have M := Lib.hid m; clear m))
                    refine onward_normal (hK _ _ ⟨(by first | exact M.out | exact M.out.take 6), ?_⟩)
                    clear hK K
                    try simp only [Act.put, List.getElem_toArray, List.getElem_cons_succ, List.getElem_cons_zero, List.setIfInBounds_toArray, List.set_cons_succ, List.set_cons_zero]
                    exact REST1 g36 w36 M.out
                case hB =>
                  intro g36 w_ m
                  have M := Lib.hid m
                  clear m
                  refine any1H 10 (by kernel_rfl) rfl (fun K hK => ?_)
                  go_wp2_with (first | ((with_reducible refine gate_store (x := .tmp 36) rfl ?_); go_must (refine M.out.ev_stw 6 _ _ _ rfl rfl rfl rfl _ rfl (by first | rfl | (simp only [S1.out]; rfl) | (simp only [S1.out, S2.out]; rfl) | (simp only [S3.out]; rfl) | (simp only [S1.out, S2.out, S3.out]; rfl)) (by first | exact sz39 | (rw [S1.out]; exact sz39) | (rw [S2.out]; exact sz39) | (rw [S3.out]; exact sz39)) (by first | exact ints_one _ _ | exact Fld.one _ | exact O1.out | exact Fld.one _ | exact Prices.one _ | exact Cs.one _ | rfl | (simp [Value.oneCell']; done)) rfl ?_); intro wn m; simp only [List.set_cons_succ, List.set_cons_zero, List.setIfInBounds_toArray] at m; have M := Lib.hid m; clear m))
                  refine onward_normal (hK _ _ ⟨(by first | exact M.out | exact M.out.take 6), ?_⟩)
                  clear hK K
                  try simp only [Act.put, List.getElem_toArray, List.getElem_cons_succ, List.getElem_cons_zero, List.setIfInBounds_toArray, List.set_cons_succ, List.set_cons_zero]
                  apply takeH (i := 11) 37 rfl (by kernel_rfl) (by kernel_rfl) (by kernel_rfl) (fun _ _ _ h => h) rfl (by first | exact M.out | exact M.out.take 6)
                  case' hy =>
                    refine Or.inl ⟨by first | rfl | (go_simp; done), ?_⟩
                    intro w hS
                    clear hS
                    go_simp
                    try with_reducible rfl
                  try simp only [Act.put, List.getElem_toArray, List.getElem_cons_succ, List.getElem_cons_zero, List.setIfInBounds_toArray, List.set_cons_succ, List.set_cons_zero]
                  exact REST0 g36 wn M.out
              intro g36 w_ m
              have M := Lib.hid m
              clear m M9
              refine wpAnyH_done (by kernel_rfl) ?_ _
              go_wp2
              refine region_anyH (fun w' => Mem w w' [.blk g5 35 F.cells, .blk g6 37 p.vals.toArray, .blk g7 39 s.cells, .row (.slice A2 D.length c2) 2 1 D.length (flat oneI D), .row (.slice (some ⟨lb, loff, none⟩) s.all.length c4) 2 1 s.all.length (flat one64 s.all), .row (.slice (some ⟨nb_, noff, none⟩) ns.length c7) 65 4 ns.length (flat Net.vals ns), .blk g36 39 (netSet x).cells]) (by kernel_rfl) ?_
              have m := M.out.drew
              clear M
              have M := Lib.hid m
              clear m
              apply takeH (i := 0) 267 rfl (by kernel_rfl) (by kernel_rfl) (by kernel_rfl) (fun _ _ _ h => h) rfl (by first | exact M.out | exact M.out.take 7)
              case' hy => exact yldw _ _ rfl rfl Try.underlying35 rfl (by first | exact sz35 | (rw [S1.out]; exact sz35) | (rw [S2.out]; exact sz35) | (rw [S3.out]; exact sz35)) rfl (fun w' hS => hS.blk 0 rfl)
              try simp only [Act.put, List.getElem_toArray, List.getElem_cons_succ, List.getElem_cons_zero, List.setIfInBounds_toArray, List.set_cons_succ, List.set_cons_zero]
              apply takeH (i := 1) 268 rfl (by kernel_rfl) (by kernel_rfl) (by kernel_rfl) (fun _ _ _ h => h) rfl (by first | exact M.out | exact M.out.take 7)
              case' hy => exact yldw _ _ rfl rfl Try.underlying37 rfl (by first | exact sz37 | (rw [S1.out]; exact sz37) | (rw [S2.out]; exact sz37) | (rw [S3.out]; exact sz37)) rfl (fun w' hS => hS.blk 1 rfl)
              try simp only [Act.put, List.getElem_toArray, List.getElem_cons_succ, List.getElem_cons_zero, List.setIfInBounds_toArray, List.set_cons_succ, List.set_cons_zero]
              apply takeH (i := 2) 269 rfl (by kernel_rfl) (by kernel_rfl) (by kernel_rfl) (fun _ _ _ h => h) rfl (by first | exact M.out | exact M.out.take 7)
              case' hy =>
                refine Or.inl ⟨by first | rfl | (go_simp; done), ?_⟩
                intro w hS
                clear hS
                go_simp
                try with_reducible rfl
              try simp only [Act.put, List.getElem_toArray, List.getElem_cons_succ, List.getElem_cons_zero, List.setIfInBounds_toArray, List.set_cons_succ, List.set_cons_zero]
              apply takeH (i := 3) 270 rfl (by kernel_rfl) (by kernel_rfl) (by kernel_rfl) (fun _ _ _ h => h) rfl (by first | exact M.out | exact M.out.take 7)
              case' hy =>
                refine Or.inl ⟨by first | rfl | (go_simp; done), ?_⟩
                intro w hS
                clear hS
                go_simp
                try with_reducible rfl
              try simp only [Act.put, List.getElem_toArray, List.getElem_cons_succ, List.getElem_cons_zero, List.setIfInBounds_toArray, List.set_cons_succ, List.set_cons_zero]
              apply takeH (i := 4) 271 rfl (by kernel_rfl) (by kernel_rfl) (by kernel_rfl) (fun _ _ _ h => h) rfl (by first | exact M.out | exact M.out.take 7)
              case' hy =>
                refine Or.inl ⟨by first | rfl | (go_simp; done), ?_⟩
                intro w hS
                clear hS
                go_simp
                try with_reducible rfl
              try simp only [Act.put, List.getElem_toArray, List.getElem_cons_succ, List.getElem_cons_zero, List.setIfInBounds_toArray, List.set_cons_succ, List.set_cons_zero]
              apply takeH (i := 5) 272 rfl (by kernel_rfl) (by kernel_rfl) (by kernel_rfl) (fun _ _ _ h => h) rfl (by first | exact M.out | exact M.out.take 7)
              case' hy => exact yieldsIf_load_mid (by first | rfl | (go_simp; done)) _ _ rfl _ _ rfl _ _ (fun w' hS => range_at Net.vl (sl_range (hS.slof 5 rfl) hit) HXK.out) Try.underlying65 rfl sz65
              try simp only [Act.put, List.getElem_toArray, List.getElem_cons_succ, List.getElem_cons_zero, List.setIfInBounds_toArray, List.set_cons_succ, List.set_cons_zero]
              refine any1H 6 (by kernel_rfl) rfl (fun K hK => ?_)
              go_wp2_with (first | ((with_reducible refine gate_dst (N := 267) rfl ?_); go_must (refine M.out.ev_ldw 0 _ _ rfl rfl rfl Try.underlying35 rfl (by first | exact sz35 | (rw [S1.out]; exact sz35) | (rw [S2.out]; exact sz35) | (rw [S3.out]; exact sz35)) rfl ?_)) | ((with_reducible refine gate_dst (N := 268) rfl ?_); go_must (refine M.out.ev_ldw 1 _ _ rfl rfl rfl Try.underlying37 rfl (by first | exact sz37 | (rw [S1.out]; exact sz37) | (rw [S2.out]; exact sz37) | (rw [S3.out]; exact sz37)) rfl ?_)) | (go_at_call 29; go_must (refine (CO_.out _).mono ?_); rintro e w_ ⟨rfl, N_⟩; have m := M.out.join N_; clear N_; simp only [List.cons_append, List.nil_append, List.append_nil] at m; have M := Lib.hid m; clear m))
              refine onward_normal (hK _ _ ⟨(by first | exact M.out | exact M.out.take 7), ?_⟩)
              clear hK K
              try simp only [Act.put, List.getElem_toArray, List.getElem_cons_succ, List.getElem_cons_zero, List.setIfInBounds_toArray, List.set_cons_succ, List.set_cons_zero]
              apply takeH (i := 7) 266 rfl (by kernel_rfl) (by kernel_rfl) (by kernel_rfl) (fun _ _ _ h => h) rfl (by first | exact M.out | exact M.out.take 7)
              case' hy =>
                refine Or.inl ⟨by first | rfl | (go_simp; done), ?_⟩
                intro w hS
                clear hS
                go_simp
                try with_reducible rfl
              try simp only [Act.put, List.getElem_toArray, List.getElem_cons_succ, List.getElem_cons_zero, List.setIfInBounds_toArray, List.set_cons_succ, List.set_cons_zero]
              apply takeH (i := 8) 274 rfl (by kernel_rfl) (by kernel_rfl) (by kernel_rfl) (fun _ _ _ h => h) rfl (by first | exact M.out | exact M.out.take 7)
              case' hy =>
                refine Or.inl ⟨by first | rfl | (go_simp; done), ?_⟩
                intro w hS
                clear hS
                go_simp
                try with_reducible rfl
              try simp only [Act.put, List.getElem_toArray, List.getElem_cons_succ, List.getElem_cons_zero, List.setIfInBounds_toArray, List.set_cons_succ, List.set_cons_zero]
              apply takeH (i := 9) 275 rfl (by kernel_rfl) (by kernel_rfl) (by kernel_rfl) (fun _ _ _ h => h) rfl (by first | exact M.out | exact M.out.take 7)
              case' hy =>
                refine Or.inl ⟨by first | rfl | (go_simp; done), ?_⟩
                intro w hS
                clear hS
                go_simp
                try with_reducible rfl
              try simp only [Act.put, List.getElem_toArray, List.getElem_cons_succ, List.getElem_cons_zero, List.setIfInBounds_toArray, List.set_cons_succ, List.set_cons_zero]
              apply takeH (i := 10) 38 rfl (by kernel_rfl) (by kernel_rfl) (by kernel_rfl) (fun _ _ _ h => h) rfl (by first | exact M.out | exact M.out.take 7)
              case' hy =>
                refine Or.inl ⟨by first | rfl | (go_simp; done), ?_⟩
                intro w hS
                clear hS
                go_simp
                try with_reducible rfl
              try simp only [Act.put, List.getElem_toArray, List.getElem_cons_succ, List.getElem_cons_zero, List.setIfInBounds_toArray, List.set_cons_succ, List.set_cons_zero]
              apply takeH (i := 11) 39 rfl (by kernel_rfl) (by kernel_rfl) (by kernel_rfl) (fun _ _ _ h => h) rfl (by first | exact M.out | exact M.out.take 7)
              case' hy =>
                refine Or.inl ⟨by first | rfl | (go_simp; done), ?_⟩
                intro w hS
                clear hS
                go_simp
                try with_reducible rfl
              try simp only [Act.put, List.getElem_toArray, List.getElem_cons_succ, List.getElem_cons_zero, List.setIfInBounds_toArray, List.set_cons_succ, List.set_cons_zero]
              refine wpAnyH_done (by kernel_rfl) ?_ _
              go_wp2
              go_loopw [40, 41] (fun u v wr => ∃ j : Nat, j ≤ D.length ∧ v = .int .i64 j ∧ u = .int .i64 (dTo x s.all D j) ∧ Mem w wr [.blk g5 35 F.cells, .blk g6 37 p.vals.toArray, .blk g7 39 s.cells, .row (.slice A2 D.length c2) 2 1 D.length (flat oneI D), .row (.slice (some ⟨lb, loff, none⟩) s.all.length c4) 2 1 s.all.length (flat one64 s.all), .row (.slice (some ⟨nb_, noff, none⟩) ns.length c7) 65 4 ns.length (flat Net.vals ns), .blk g36 39 (netSet x).cells])
                (fun _ v _ => D.length - (intOf v).toNat)
              case atStart => exact ⟨0, by omega, rfl, rfl, M.out⟩
              case round =>
                clear M
                obtain ⟨j', hj', rfl, rfl, m⟩ := hrel
                have M := Lib.hid m
                clear m
                by_cases hjt : j' < D.length
                · obtain ⟨hjat, _, hj100⟩ := all_getD (c := s) (i := j') (by omega)
                  have HJAT := Lib.hid hjat
                  have HGI := Lib.hid (gi_at hjt)
                  obtain ⟨ob, ooff, rfl, _⟩ := (M.out.slof 3 rfl).2 (by omega)
                  have x2 := (M.out.slof 3 rfl).atI HGI.out
                  have HDS := Lib.hid (show dTo x s.all D (j' + 1) = dTo x s.all D j' + if x.inside (s.all.getD j' 0) = true then gi D j' else 0 from rfl)
                  have b1 := HDB.out j'
                  have b2 := HDB.out (j' + 1)
                  have j0 : (0 : Int) ≤ (j' : Int) := by omega
                  have j1 : (j' : Int) < (D.length : Int) := by omega
                  have j2 : (j' : Int) < (s.all.length : Int) := by omega
                  have HHI := Lib.hid (show (netSet x).has (s.all.getD j' 0) = x.inside (s.all.getD j' 0) from pset_has _ hj100)
                  obtain ⟨z', hz⟩ : ∃ z, z = s.all.getD j' 0 := ⟨_, rfl⟩
                  obtain ⟨y, hy⟩ : ∃ y, y = gi D j' := ⟨_, rfl⟩
                  rw [← hz] at HJAT HDS HHI hj100
                  rw [← hy] at HGI HDS x2
                  clear hz hy hjat
                  cases hq : x.inside z'
                  all_goals
                    have HQ := Lib.hid hq
                    rw [hq] at HHI
                    have hdd := HDS.out
                    rw [hq] at hdd
                    first
                      | rw [if_neg (by decide)] at hdd
                      | rw [if_pos rfl] at hdd
                    try have w1 : IntKind.i64.wrap (dTo x s.all D j' + y) = dTo x s.all D j' + y := IntWalk.i64_in _ (by omega)
                    have HDD := Lib.hid hdd
                    clear hdd hq
                    go_wp2
                    refine region_anyH (fun w' => Mem w w' [.blk g5 35 F.cells, .blk g6 37 p.vals.toArray, .blk g7 39 s.cells, .row (.slice (some ⟨ob, ooff, none⟩) D.length c2) 2 1 D.length (flat oneI D), .row (.slice (some ⟨lb, loff, none⟩) s.all.length c4) 2 1 s.all.length (flat one64 s.all), .row (.slice (some ⟨nb_, noff, none⟩) ns.length c7) 65 4 ns.length (flat Net.vals ns), .blk g36 39 (netSet x).cells]) (by kernel_rfl) ?_
                    have m := M.out.drew
                    clear M
                    have M := Lib.hid m
                    clear m
                    apply takeH (i := 0) 282 rfl (by kernel_rfl) (by kernel_rfl) (by kernel_rfl) (fun _ _ _ h => h) rfl (by first | exact M.out | exact M.out.take 7)
                    case' hy => exact yldw _ _ rfl rfl Try.underlying39 rfl (by first | exact sz39 | (rw [S1.out]; exact sz39) | (rw [S2.out]; exact sz39) | (rw [S3.out]; exact sz39)) rfl (fun w' hS => hS.blk 6 rfl)
                    try simp only [Act.put, List.getElem_toArray, List.getElem_cons_succ, List.getElem_cons_zero, List.setIfInBounds_toArray, List.set_cons_succ, List.set_cons_zero]
                    apply takeH (i := 1) 283 rfl (by kernel_rfl) (by kernel_rfl) (by kernel_rfl) (fun _ _ _ h => h) rfl (by first | exact M.out | exact M.out.take 7)
                    case' hy =>
                      refine Or.inl ⟨by first | rfl | (go_simp; done), ?_⟩
                      intro w hS
                      clear hS
                      go_simp
                      try with_reducible rfl
                    try simp only [Act.put, List.getElem_toArray, List.getElem_cons_succ, List.getElem_cons_zero, List.setIfInBounds_toArray, List.set_cons_succ, List.set_cons_zero]
                    apply takeH (i := 2) 284 rfl (by kernel_rfl) (by kernel_rfl) (by kernel_rfl) (fun _ _ _ h => h) rfl (by first | exact M.out | exact M.out.take 7)
                    case' hy =>
                      refine Or.inl ⟨by first | rfl | (go_simp; done), ?_⟩
                      intro w hS
                      clear hS
                      go_simp
                      try with_reducible rfl
                    try simp only [Act.put, List.getElem_toArray, List.getElem_cons_succ, List.getElem_cons_zero, List.setIfInBounds_toArray, List.set_cons_succ, List.set_cons_zero]
                    apply takeH (i := 3) 285 rfl (by kernel_rfl) (by kernel_rfl) (by kernel_rfl) (fun _ _ _ h => h) rfl (by first | exact M.out | exact M.out.take 7)
                    case' hy =>
                      refine Or.inl ⟨by first | rfl | (go_simp; done), ?_⟩
                      intro w hS
                      clear hS
                      go_simp
                      try with_reducible rfl
                    try simp only [Act.put, List.getElem_toArray, List.getElem_cons_succ, List.getElem_cons_zero, List.setIfInBounds_toArray, List.set_cons_succ, List.set_cons_zero]
                    apply takeH (i := 4) 286 rfl (by kernel_rfl) (by kernel_rfl) (by kernel_rfl) (fun _ _ _ h => h) rfl (by first | exact M.out | exact M.out.take 7)
                    case' hy => exact ylds _ _ rfl rfl Try.underlying2 rfl rfl (fun w' hS => (hS.slof 4 rfl).at64 HJAT.out)
                    try simp only [Act.put, List.getElem_toArray, List.getElem_cons_succ, List.getElem_cons_zero, List.setIfInBounds_toArray, List.set_cons_succ, List.set_cons_zero]
                    refine any1H 5 (by kernel_rfl) rfl (fun K hK => ?_)
                    go_wp2_with (first | ((with_reducible refine gate_dst (N := 282) rfl ?_); go_must (refine M.out.ev_ldw 6 _ _ rfl rfl rfl Try.underlying39 rfl (by first | exact sz39 | (rw [S1.out]; exact sz39) | (rw [S2.out]; exact sz39) | (rw [S3.out]; exact sz39)) rfl ?_)) | (go_at_call 30; go_must (refine (specHasCell_any _ NS.out z' hj100 _).mono ?_); rintro e w_ ⟨rfl, N_⟩; have m := M.out.join N_; clear N_; simp only [List.cons_append, List.nil_append, List.append_nil] at m; have M := Lib.hid m; clear m; rw [HHI.out]))
                    refine onward_normal (hK _ _ ⟨(by first | exact M.out | exact M.out.take 7), ?_⟩)
                    clear hK K
                    try simp only [Act.put, List.getElem_toArray, List.getElem_cons_succ, List.getElem_cons_zero, List.setIfInBounds_toArray, List.set_cons_succ, List.set_cons_zero]
                    refine wpAnyH_done (by kernel_rfl) ?_ _
                    all_goals
                      have x2 := (M.out.slof 3 rfl).atI HGI.out
                      go_wp2
                      exact ⟨⟨j' + 1, by omega, by go_num, by rw [HDD.out]; try (congr 1; omega), M.out⟩, by simp [intOf]; try omega⟩
                · obtain rfl : j' = D.length := by omega
                  have j9 : ¬ ((D.length : Int) < (s.all.length : Int)) := by omega
                  have hfd := HFD.out
                  go_wp2_with (first
                    | ((with_reducible refine gate_dst (N := 297) rfl ?_); refine gate_want rfl ?_; go_must (refine M.out.ev_ldw 6 _ _ rfl rfl rfl Try.underlying39 rfl sz39 rfl ?_))
                    | (go_at_call 30; go_must (refine (specHasCell_any _ NS.out k hk1 _).mono ?_); rintro e w_ ⟨rfl, N_⟩; have m := M.out.join N_; clear N_; simp only [List.cons_append, List.nil_append, List.append_nil] at m; have M := Lib.hid m; clear m; rw [HIN.out])
                    )
                  exact ⟨⟨i + 1, by omega, by go_num, M.out.take 6⟩, by simp [intOf]; try omega⟩
            · obtain rfl : i = ns.length := by omega
              have q1 : ¬ ((ns.length : Int) < (ns.length : Int)) := by omega
              go_wp2
              go_ret
              exact ⟨rfl, M.out.take 0⟩
        · have zf : (z == 0) = false := by rw [beq_eq_false_iff_ne]; exact hz0
          go_wp2_with (first
            | ((with_reducible refine gate_dst (N := 195) rfl ?_); go_must (refine M.out.ev_ldw 0 _ _ rfl rfl rfl Try.underlying35 rfl (by rw [S1.out]; exact sz35) rfl ?_))
            | ((with_reducible refine gate_dst (N := 196) rfl ?_); go_must (refine M.out.ev_ldw 1 _ _ rfl rfl rfl Try.underlying37 rfl sz37 rfl ?_))
            | ((with_reducible refine gate_dst (N := 197) rfl ?_); go_must (refine M.out.ev_ldw 2 _ _ rfl rfl rfl Try.underlying39 rfl sz39 rfl ?_))
            | (go_at_call 5; go_must (refine (CH.out _).mono ?_); rintro e w_ ⟨A5, c5, rfl, hc5, N_⟩; have m := M.out.join N_; clear N_; simp only [List.cons_append, List.nil_append, List.append_nil] at m; have M := Lib.hid m; clear m)
            | ((with_reducible refine gate_dst (N := 222) rfl ?_); go_must (refine M.out.ev_ldw 0 _ _ rfl rfl rfl Try.underlying35 rfl (by rw [S1.out]; exact sz35) rfl ?_))
            | ((with_reducible refine gate_dst (N := 228) rfl ?_); go_must (refine M.out.ev_ldw 0 _ _ rfl rfl rfl Try.underlying35 rfl (by rw [S1.out]; exact sz35) rfl ?_))
            | (go_at_call 24; go_must (refine (a2At_any B nb cs YC.out (s.all.length : Int) n1 _ (M.out.sl HT.out)).mono ?_); rintro e w_ ⟨r, rfl, r0, r1, rfl⟩; obtain ⟨j, hj, hjl⟩ := among_nat r0 r1; subst hj; obtain ⟨k, ns, hk, hk1, DA_⟩ := dutAt C.out hjl; have DA := Lib.hid DA_; obtain ⟨lb, loff, rfl, _⟩ := (M.out.slof 4 rfl).2 (by omega); have x1 := (M.out.slof 4 rfl).at64 hk; have HK := Lib.hid hk; have m1 : ((ns.length : Int) == 0) = false := (by have := DA_.n0; rw [beq_eq_false_iff_ne]; omega); have ln1 := DA_.n1; clear hk DA_ r0 r1)
            | (go_at_call 25; go_must (refine (DA.out.ia _).mono ?_); rintro e w_ ⟨A6, c6, rfl, hc6, N_⟩; have m := M.out.join N_; clear N_; simp only [List.cons_append, List.nil_append, List.append_nil] at m; have M := Lib.hid m; clear m)
            | (go_at_call 26; go_must (refine (DA.out.sa _).mono ?_); rintro e w_ ⟨A7, c7, rfl, hc7, N_⟩; have m := M.out.join N_; clear N_; simp only [List.cons_append, List.nil_append, List.append_nil] at m; have M := Lib.hid m; clear m)
            | (go_at_call 27; go_must (refine (NetSame_any _ _ _ _ ns _ (by omega) (M.out.slof 6 rfl) (M.out.slof 7 rfl)).mono ?_); rintro e w_ ⟨rfl, N_⟩; have m := M.out.join N_; clear N_; simp only [List.cons_append, List.nil_append, List.append_nil] at m; have M := Lib.hid m; clear m)
            )
          have QQ := Lib.hid (show ∀ x ∈ ns, dTo x s.all D D.length ≤ netCost p x ∧ (netSet x).has k = true from fun x hx => ⟨DA.out.fe x hx, DA.out.in_ x hx⟩)
          go_loopw [35] (fun v wr => ∃ i : Nat, i ≤ ns.length ∧ v = .int .i64 i ∧ Mem w wr [.blk g5 35 F.cells, .blk g6 37 p.vals.toArray, .blk g7 39 s.cells, .row (.slice A2 D.length c2) 2 1 D.length (flat oneI D), .row (.slice (some ⟨lb, loff, none⟩) s.all.length c4) 2 1 s.all.length (flat one64 s.all), .row (.slice A7 ns.length c7) 65 4 ns.length (flat Net.vals ns)])
            (fun v _ => ns.length - (intOf v).toNat)
          case atStart => exact ⟨0, by omega, rfl, M.out.only [0, 1, 2, 3, 4, 7] (K := [_, _, _, _, _, _]) rfl (by decide)⟩
          case round =>
            clear M x1
            obtain ⟨i, hi, rfl, m⟩ := hrel
            have M := Lib.hid m
            clear m
            by_cases hit : i < ns.length
            · obtain ⟨nb_, noff, rfl, _⟩ := (M.out.slof 5 rfl).2 (by omega)
              have HXK := Lib.hid (show ns[i]? = some ns[i] from List.getElem?_eq_getElem hit)
              have hxm : ns[i] ∈ ns := List.getElem_mem hit
              have CU := Lib.hid (DA.out.cu _ hxm)
              have CO_ := Lib.hid (DA.out.co _ hxm)
              obtain ⟨hfe, hin⟩ := QQ.out _ hxm
              have q0 : (0 : Int) ≤ (i : Int) := by omega
              have q1 : (i : Int) < (ns.length : Int) := by omega
              obtain ⟨x, hx⟩ : ∃ x, x = ns[i] := ⟨_, rfl⟩
              rw [← hx] at HXK CU CO_ hfe hin
              have NS := Lib.hid (show (netSet x).ok from pset_ok _)
              have HIN := Lib.hid hin
              have hfd : decide (netCost p x < dTo x s.all D D.length) = false := decide_eq_false (by omega)
              have HDB := Lib.hid (fun j => dTo_b x s.all (ds := D) ⟨fun j => ⟨d00 j, by have := d57 j; omega⟩⟩ j)
              obtain ⟨a, ha⟩ : ∃ a, a = netCost p x := ⟨_, rfl⟩
              rw [← ha] at CO_ hfe hfd
              clear hx hxm hin ha hfe
              have HFD := Lib.hid hfd
              clear hfd
              go_wp2
              refine region_anyH (fun w' => Mem w w' [.blk g5 35 F.cells, .blk g6 37 p.vals.toArray, .blk g7 39 s.cells, .row (.slice A2 D.length c2) 2 1 D.length (flat oneI D), .row (.slice (some ⟨lb, loff, none⟩) s.all.length c4) 2 1 s.all.length (flat one64 s.all), .row (.slice (some ⟨nb_, noff, none⟩) ns.length c7) 65 4 ns.length (flat Net.vals ns)]) (by kernel_rfl) ?_
              have M9 := M.out.drew
              clear M
              apply merge1
              case hA =>
                intro REST0
                apply merge1
                case hA =>
                  intro REST1
                  have M := Lib.hid M9
                  apply takeH (i := 0) 258 rfl (by kernel_rfl) (by kernel_rfl) (by kernel_rfl) (fun _ _ _ h => h) rfl (by first | exact M.out | exact M.out.take 6)
                  case' hy => exact yldw _ _ rfl rfl Try.underlying35 rfl (by first | exact sz35 | (rw [S1.out]; exact sz35) | (rw [S2.out]; exact sz35) | (rw [S3.out]; exact sz35)) rfl (fun w' hS => hS.blk 0 rfl)
                  try simp only [Act.put, List.getElem_toArray, List.getElem_cons_succ, List.getElem_cons_zero, List.setIfInBounds_toArray, List.set_cons_succ, List.set_cons_zero]
                  apply takeH (i := 1) 259 rfl (by kernel_rfl) (by kernel_rfl) (by kernel_rfl) (fun _ _ _ h => h) rfl (by first | exact M.out | exact M.out.take 6)
                  case' hy =>
                    refine Or.inl ⟨by first | rfl | (go_simp; done), ?_⟩
                    intro w hS
                    clear hS
                    go_simp
                    try with_reducible rfl
                  try simp only [Act.put, List.getElem_toArray, List.getElem_cons_succ, List.getElem_cons_zero, List.setIfInBounds_toArray, List.set_cons_succ, List.set_cons_zero]
                  apply takeH (i := 2) 260 rfl (by kernel_rfl) (by kernel_rfl) (by kernel_rfl) (fun _ _ _ h => h) rfl (by first | exact M.out | exact M.out.take 6)
                  case' hy =>
                    refine Or.inl ⟨by first | rfl | (go_simp; done), ?_⟩
                    intro w hS
                    clear hS
                    go_simp
                    try with_reducible rfl
                  try simp only [Act.put, List.getElem_toArray, List.getElem_cons_succ, List.getElem_cons_zero, List.setIfInBounds_toArray, List.set_cons_succ, List.set_cons_zero]
                  apply takeH (i := 3) 261 rfl (by kernel_rfl) (by kernel_rfl) (by kernel_rfl) (fun _ _ _ h => h) rfl (by first | exact M.out | exact M.out.take 6)
                  case' hy =>
                    refine Or.inl ⟨by first | rfl | (go_simp; done), ?_⟩
                    intro w hS
                    clear hS
                    go_simp
                    try with_reducible rfl
                  try simp only [Act.put, List.getElem_toArray, List.getElem_cons_succ, List.getElem_cons_zero, List.setIfInBounds_toArray, List.set_cons_succ, List.set_cons_zero]
                  apply takeH (i := 4) 262 rfl (by kernel_rfl) (by kernel_rfl) (by kernel_rfl) (fun _ _ _ h => h) rfl (by first | exact M.out | exact M.out.take 6)
                  case' hy => exact yieldsIf_load_mid (by first | rfl | (go_simp; done)) _ _ rfl _ _ rfl _ _ (fun w' hS => range_at Net.vl (sl_range (hS.slof 5 rfl) hit) HXK.out) Try.underlying65 rfl sz65
                  try simp only [Act.put, List.getElem_toArray, List.getElem_cons_succ, List.getElem_cons_zero, List.setIfInBounds_toArray, List.set_cons_succ, List.set_cons_zero]
                  refine any2H 5 9 (by kernel_rfl) rfl rfl (fun K hK => ?_) (fun K hK => ?_)
                  rotate_right 1
                  case' _ =>
                    go_wp2_with (first | ((with_reducible refine gate_dst (N := 36) rfl ?_); go_must (refine M.out.ev_new rfl (by first | (go_simp; done) | (go_simp; rfl)) ?_); intro g36 w36 m; simp only [List.cons_append, List.nil_append] at m; have M := Lib.hid m; clear m))
                    refine onward_normal (hK _ _ ⟨(by first | exact M.out | exact M.out.take 6), ?_⟩)
                    clear hK K
                    try simp only [Act.put, List.getElem_toArray, List.getElem_cons_succ, List.getElem_cons_zero, List.setIfInBounds_toArray, List.set_cons_succ, List.set_cons_zero]
                    refine any1H 5 (by kernel_rfl) rfl (fun K hK => ?_)
                    go_wp2_with (first | (go_at_call 28; go_must (refine (CU.out _).mono ?_); rintro e w_ ⟨rfl, N_⟩; have m := M.out.join N_; clear N_; simp only [List.cons_append, List.nil_append, List.append_nil] at m; have M := Lib.hid m; clear m))
                    refine onward_normal (hK _ _ ⟨(by first | exact M.out | exact M.out.take 6), ?_⟩)
                    clear hK K
                    try simp only [Act.put, List.getElem_toArray, List.getElem_cons_succ, List.getElem_cons_zero, List.setIfInBounds_toArray, List.set_cons_succ, List.set_cons_zero]
                    apply takeH (i := 6) 257 rfl (by kernel_rfl) (by kernel_rfl) (by kernel_rfl) (fun _ _ _ h => h) rfl (by first | exact M.out | exact M.out.take 6)
                    case' hy =>
                      refine Or.inl ⟨by first | rfl | (go_simp; done), ?_⟩
                      intro w hS
                      clear hS
                      go_simp
                      try with_reducible rfl
                    try simp only [Act.put, List.getElem_toArray, List.getElem_cons_succ, List.getElem_cons_zero, List.setIfInBounds_toArray, List.set_cons_succ, List.set_cons_zero]
                    apply takeH (i := 7) 264 rfl (by kernel_rfl) (by kernel_rfl) (by kernel_rfl) (fun _ _ _ h => h) rfl (by first | exact M.out | exact M.out.take 6)
                    case' hy =>
                      refine Or.inl ⟨by first | rfl | (go_simp; done), ?_⟩
                      intro w hS
                      clear hS
                      go_simp
                      try with_reducible rfl
                    try simp only [Act.put, List.getElem_toArray, List.getElem_cons_succ, List.getElem_cons_zero, List.setIfInBounds_toArray, List.set_cons_succ, List.set_cons_zero]
                    apply takeH (i := 8) 265 rfl (by kernel_rfl) (by kernel_rfl) (by kernel_rfl) (fun _ _ _ h => h) rfl (by first | exact M.out | exact M.out.take 6)
                    case' hy =>
                      refine Or.inl ⟨by first | rfl | (go_simp; done), ?_⟩
                      intro w hS
                      clear hS
                      go_simp
                      try with_reducible rfl
                    try simp only [Act.put, List.getElem_toArray, List.getElem_cons_succ, List.getElem_cons_zero, List.setIfInBounds_toArray, List.set_cons_succ, List.set_cons_zero]
                    exact REST1 g36 w_ M.out
                  rotate_right 1
                  case' _ =>
                    go_wp2_with (first | (go_at_call 28; go_must (refine (CU.out _).mono ?_); rintro e w_ ⟨rfl, N_⟩; have m := M.out.join N_; clear N_; simp only [List.cons_append, List.nil_append, List.append_nil] at m; have M := Lib.hid m; clear m))
                    refine onward_normal (hK _ _ ⟨(by first | exact M.out | exact M.out.take 6), ?_⟩)
                    clear hK K
                    try simp only [Act.put, List.getElem_toArray, List.getElem_cons_succ, List.getElem_cons_zero, List.setIfInBounds_toArray, List.set_cons_succ, List.set_cons_zero]
                    apply takeH (i := 6) 257 rfl (by kernel_rfl) (by kernel_rfl) (by kernel_rfl) (fun _ _ _ h => h) rfl (by first | exact M.out | exact M.out.take 6)
                    case' hy =>
                      refine Or.inl ⟨by first | rfl | (go_simp; done), ?_⟩
                      intro w hS
                      clear hS
                      go_simp
                      try with_reducible rfl
                    try simp only [Act.put, List.getElem_toArray, List.getElem_cons_succ, List.getElem_cons_zero, List.setIfInBounds_toArray, List.set_cons_succ, List.set_cons_zero]
                    apply takeH (i := 7) 264 rfl (by kernel_rfl) (by kernel_rfl) (by kernel_rfl) (fun _ _ _ h => h) rfl (by first | exact M.out | exact M.out.take 6)
                    case' hy =>
                      refine Or.inl ⟨by first | rfl | (go_simp; done), ?_⟩
                      intro w hS
                      clear hS
                      go_simp
                      try with_reducible rfl
                    try simp only [Act.put, List.getElem_toArray, List.getElem_cons_succ, List.getElem_cons_zero, List.setIfInBounds_toArray, List.set_cons_succ, List.set_cons_zero]
                    apply takeH (i := 8) 265 rfl (by kernel_rfl) (by kernel_rfl) (by kernel_rfl) (fun _ _ _ h => h) rfl (by first | exact M.out | exact M.out.take 6)
                    case' hy =>
                      refine Or.inl ⟨by first | rfl | (go_simp; done), ?_⟩
                      intro w hS
                      clear hS
                      go_simp
                      try with_reducible rfl
                    try simp only [Act.put, List.getElem_toArray, List.getElem_cons_succ, List.getElem_cons_zero, List.setIfInBounds_toArray, List.set_cons_succ, List.set_cons_zero]
                    refine any1H 9 (by kernel_rfl) rfl (fun K hK => ?_)
                    go_wp2_with (first | ((with_reducible refine gate_dst (N := 36) rfl ?_); go_must (refine M.out.ev_new rfl (by first | (go_simp; done) | (go_simp; rfl)) ?_); intro g36 w36 m; simp only [List.cons_append, List.nil_append] at m; have M := Lib.hid m; clear m))
                    refine onward_normal (hK _ _ ⟨(by first | exact M.out | exact M.out.take 6), ?_⟩)
                    clear hK K
                    try simp only [Act.put, List.getElem_toArray, List.getElem_cons_succ, List.getElem_cons_zero, List.setIfInBounds_toArray, List.set_cons_succ, List.set_cons_zero]
                    exact REST1 g36 w36 M.out
                case hB =>
                  intro g36 w_ m
                  have M := Lib.hid m
                  clear m
                  refine any1H 10 (by kernel_rfl) rfl (fun K hK => ?_)
                  go_wp2_with (first | ((with_reducible refine gate_store (x := .tmp 36) rfl ?_); go_must (refine M.out.ev_stw 6 _ _ _ rfl rfl rfl rfl _ rfl (by first | rfl | (simp only [S1.out]; rfl) | (simp only [S1.out, S2.out]; rfl) | (simp only [S3.out]; rfl) | (simp only [S1.out, S2.out, S3.out]; rfl)) (by first | exact sz39 | (rw [S1.out]; exact sz39) | (rw [S2.out]; exact sz39) | (rw [S3.out]; exact sz39)) (by first | exact ints_one _ _ | exact Fld.one _ | exact O1.out | exact Fld.one _ | exact Prices.one _ | exact Cs.one _ | rfl | (simp [Value.oneCell']; done)) rfl ?_); intro wn m; simp only [List.set_cons_succ, List.set_cons_zero, List.setIfInBounds_toArray] at m; have M := Lib.hid m; clear m))
                  refine onward_normal (hK _ _ ⟨(by first | exact M.out | exact M.out.take 6), ?_⟩)
                  clear hK K
                  try simp only [Act.put, List.getElem_toArray, List.getElem_cons_succ, List.getElem_cons_zero, List.setIfInBounds_toArray, List.set_cons_succ, List.set_cons_zero]
                  apply takeH (i := 11) 37 rfl (by kernel_rfl) (by kernel_rfl) (by kernel_rfl) (fun _ _ _ h => h) rfl (by first | exact M.out | exact M.out.take 6)
                  case' hy =>
                    refine Or.inl ⟨by first | rfl | (go_simp; done), ?_⟩
                    intro w hS
                    clear hS
                    go_simp
                    try with_reducible rfl
                  try simp only [Act.put, List.getElem_toArray, List.getElem_cons_succ, List.getElem_cons_zero, List.setIfInBounds_toArray, List.set_cons_succ, List.set_cons_zero]
                  exact REST0 g36 wn M.out
              intro g36 w_ m
              have M := Lib.hid m
              clear m M9
              refine wpAnyH_done (by kernel_rfl) ?_ _
              go_wp2
              refine region_anyH (fun w' => Mem w w' [.blk g5 35 F.cells, .blk g6 37 p.vals.toArray, .blk g7 39 s.cells, .row (.slice A2 D.length c2) 2 1 D.length (flat oneI D), .row (.slice (some ⟨lb, loff, none⟩) s.all.length c4) 2 1 s.all.length (flat one64 s.all), .row (.slice (some ⟨nb_, noff, none⟩) ns.length c7) 65 4 ns.length (flat Net.vals ns), .blk g36 39 (netSet x).cells]) (by kernel_rfl) ?_
              have m := M.out.drew
              clear M
              have M := Lib.hid m
              clear m
              apply takeH (i := 0) 267 rfl (by kernel_rfl) (by kernel_rfl) (by kernel_rfl) (fun _ _ _ h => h) rfl (by first | exact M.out | exact M.out.take 7)
              case' hy => exact yldw _ _ rfl rfl Try.underlying35 rfl (by first | exact sz35 | (rw [S1.out]; exact sz35) | (rw [S2.out]; exact sz35) | (rw [S3.out]; exact sz35)) rfl (fun w' hS => hS.blk 0 rfl)
              try simp only [Act.put, List.getElem_toArray, List.getElem_cons_succ, List.getElem_cons_zero, List.setIfInBounds_toArray, List.set_cons_succ, List.set_cons_zero]
              apply takeH (i := 1) 268 rfl (by kernel_rfl) (by kernel_rfl) (by kernel_rfl) (fun _ _ _ h => h) rfl (by first | exact M.out | exact M.out.take 7)
              case' hy => exact yldw _ _ rfl rfl Try.underlying37 rfl (by first | exact sz37 | (rw [S1.out]; exact sz37) | (rw [S2.out]; exact sz37) | (rw [S3.out]; exact sz37)) rfl (fun w' hS => hS.blk 1 rfl)
              try simp only [Act.put, List.getElem_toArray, List.getElem_cons_succ, List.getElem_cons_zero, List.setIfInBounds_toArray, List.set_cons_succ, List.set_cons_zero]
              apply takeH (i := 2) 269 rfl (by kernel_rfl) (by kernel_rfl) (by kernel_rfl) (fun _ _ _ h => h) rfl (by first | exact M.out | exact M.out.take 7)
              case' hy =>
                refine Or.inl ⟨by first | rfl | (go_simp; done), ?_⟩
                intro w hS
                clear hS
                go_simp
                try with_reducible rfl
              try simp only [Act.put, List.getElem_toArray, List.getElem_cons_succ, List.getElem_cons_zero, List.setIfInBounds_toArray, List.set_cons_succ, List.set_cons_zero]
              apply takeH (i := 3) 270 rfl (by kernel_rfl) (by kernel_rfl) (by kernel_rfl) (fun _ _ _ h => h) rfl (by first | exact M.out | exact M.out.take 7)
              case' hy =>
                refine Or.inl ⟨by first | rfl | (go_simp; done), ?_⟩
                intro w hS
                clear hS
                go_simp
                try with_reducible rfl
              try simp only [Act.put, List.getElem_toArray, List.getElem_cons_succ, List.getElem_cons_zero, List.setIfInBounds_toArray, List.set_cons_succ, List.set_cons_zero]
              apply takeH (i := 4) 271 rfl (by kernel_rfl) (by kernel_rfl) (by kernel_rfl) (fun _ _ _ h => h) rfl (by first | exact M.out | exact M.out.take 7)
              case' hy =>
                refine Or.inl ⟨by first | rfl | (go_simp; done), ?_⟩
                intro w hS
                clear hS
                go_simp
                try with_reducible rfl
              try simp only [Act.put, List.getElem_toArray, List.getElem_cons_succ, List.getElem_cons_zero, List.setIfInBounds_toArray, List.set_cons_succ, List.set_cons_zero]
              apply takeH (i := 5) 272 rfl (by kernel_rfl) (by kernel_rfl) (by kernel_rfl) (fun _ _ _ h => h) rfl (by first | exact M.out | exact M.out.take 7)
              case' hy => exact yieldsIf_load_mid (by first | rfl | (go_simp; done)) _ _ rfl _ _ rfl _ _ (fun w' hS => range_at Net.vl (sl_range (hS.slof 5 rfl) hit) HXK.out) Try.underlying65 rfl sz65
              try simp only [Act.put, List.getElem_toArray, List.getElem_cons_succ, List.getElem_cons_zero, List.setIfInBounds_toArray, List.set_cons_succ, List.set_cons_zero]
              refine any1H 6 (by kernel_rfl) rfl (fun K hK => ?_)
              go_wp2_with (first | ((with_reducible refine gate_dst (N := 267) rfl ?_); go_must (refine M.out.ev_ldw 0 _ _ rfl rfl rfl Try.underlying35 rfl (by first | exact sz35 | (rw [S1.out]; exact sz35) | (rw [S2.out]; exact sz35) | (rw [S3.out]; exact sz35)) rfl ?_)) | ((with_reducible refine gate_dst (N := 268) rfl ?_); go_must (refine M.out.ev_ldw 1 _ _ rfl rfl rfl Try.underlying37 rfl (by first | exact sz37 | (rw [S1.out]; exact sz37) | (rw [S2.out]; exact sz37) | (rw [S3.out]; exact sz37)) rfl ?_)) | (go_at_call 29; go_must (refine (CO_.out _).mono ?_); rintro e w_ ⟨rfl, N_⟩; have m := M.out.join N_; clear N_; simp only [List.cons_append, List.nil_append, List.append_nil] at m; have M := Lib.hid m; clear m))
              refine onward_normal (hK _ _ ⟨(by first | exact M.out | exact M.out.take 7), ?_⟩)
              clear hK K
              try simp only [Act.put, List.getElem_toArray, List.getElem_cons_succ, List.getElem_cons_zero, List.setIfInBounds_toArray, List.set_cons_succ, List.set_cons_zero]
              apply takeH (i := 7) 266 rfl (by kernel_rfl) (by kernel_rfl) (by kernel_rfl) (fun _ _ _ h => h) rfl (by first | exact M.out | exact M.out.take 7)
              case' hy =>
                refine Or.inl ⟨by first | rfl | (go_simp; done), ?_⟩
                intro w hS
                clear hS
                go_simp
                try with_reducible rfl
              try simp only [Act.put, List.getElem_toArray, List.getElem_cons_succ, List.getElem_cons_zero, List.setIfInBounds_toArray, List.set_cons_succ, List.set_cons_zero]
              apply takeH (i := 8) 274 rfl (by kernel_rfl) (by kernel_rfl) (by kernel_rfl) (fun _ _ _ h => h) rfl (by first | exact M.out | exact M.out.take 7)
              case' hy =>
                refine Or.inl ⟨by first | rfl | (go_simp; done), ?_⟩
                intro w hS
                clear hS
                go_simp
                try with_reducible rfl
              try simp only [Act.put, List.getElem_toArray, List.getElem_cons_succ, List.getElem_cons_zero, List.setIfInBounds_toArray, List.set_cons_succ, List.set_cons_zero]
              apply takeH (i := 9) 275 rfl (by kernel_rfl) (by kernel_rfl) (by kernel_rfl) (fun _ _ _ h => h) rfl (by first | exact M.out | exact M.out.take 7)
              case' hy =>
                refine Or.inl ⟨by first | rfl | (go_simp; done), ?_⟩
                intro w hS
                clear hS
                go_simp
                try with_reducible rfl
              try simp only [Act.put, List.getElem_toArray, List.getElem_cons_succ, List.getElem_cons_zero, List.setIfInBounds_toArray, List.set_cons_succ, List.set_cons_zero]
              apply takeH (i := 10) 38 rfl (by kernel_rfl) (by kernel_rfl) (by kernel_rfl) (fun _ _ _ h => h) rfl (by first | exact M.out | exact M.out.take 7)
              case' hy =>
                refine Or.inl ⟨by first | rfl | (go_simp; done), ?_⟩
                intro w hS
                clear hS
                go_simp
                try with_reducible rfl
              try simp only [Act.put, List.getElem_toArray, List.getElem_cons_succ, List.getElem_cons_zero, List.setIfInBounds_toArray, List.set_cons_succ, List.set_cons_zero]
              apply takeH (i := 11) 39 rfl (by kernel_rfl) (by kernel_rfl) (by kernel_rfl) (fun _ _ _ h => h) rfl (by first | exact M.out | exact M.out.take 7)
              case' hy =>
                refine Or.inl ⟨by first | rfl | (go_simp; done), ?_⟩
                intro w hS
                clear hS
                go_simp
                try with_reducible rfl
              try simp only [Act.put, List.getElem_toArray, List.getElem_cons_succ, List.getElem_cons_zero, List.setIfInBounds_toArray, List.set_cons_succ, List.set_cons_zero]
              refine wpAnyH_done (by kernel_rfl) ?_ _
              go_wp2
              go_loopw [40, 41] (fun u v wr => ∃ j : Nat, j ≤ D.length ∧ v = .int .i64 j ∧ u = .int .i64 (dTo x s.all D j) ∧ Mem w wr [.blk g5 35 F.cells, .blk g6 37 p.vals.toArray, .blk g7 39 s.cells, .row (.slice A2 D.length c2) 2 1 D.length (flat oneI D), .row (.slice (some ⟨lb, loff, none⟩) s.all.length c4) 2 1 s.all.length (flat one64 s.all), .row (.slice (some ⟨nb_, noff, none⟩) ns.length c7) 65 4 ns.length (flat Net.vals ns), .blk g36 39 (netSet x).cells])
                (fun _ v _ => D.length - (intOf v).toNat)
              case atStart => exact ⟨0, by omega, rfl, rfl, M.out⟩
              case round =>
                clear M
                obtain ⟨j', hj', rfl, rfl, m⟩ := hrel
                have M := Lib.hid m
                clear m
                by_cases hjt : j' < D.length
                · obtain ⟨hjat, _, hj100⟩ := all_getD (c := s) (i := j') (by omega)
                  have HJAT := Lib.hid hjat
                  have HGI := Lib.hid (gi_at hjt)
                  obtain ⟨ob, ooff, rfl, _⟩ := (M.out.slof 3 rfl).2 (by omega)
                  have x2 := (M.out.slof 3 rfl).atI HGI.out
                  have HDS := Lib.hid (show dTo x s.all D (j' + 1) = dTo x s.all D j' + if x.inside (s.all.getD j' 0) = true then gi D j' else 0 from rfl)
                  have b1 := HDB.out j'
                  have b2 := HDB.out (j' + 1)
                  have j0 : (0 : Int) ≤ (j' : Int) := by omega
                  have j1 : (j' : Int) < (D.length : Int) := by omega
                  have j2 : (j' : Int) < (s.all.length : Int) := by omega
                  have HHI := Lib.hid (show (netSet x).has (s.all.getD j' 0) = x.inside (s.all.getD j' 0) from pset_has _ hj100)
                  obtain ⟨z', hz⟩ : ∃ z, z = s.all.getD j' 0 := ⟨_, rfl⟩
                  obtain ⟨y, hy⟩ : ∃ y, y = gi D j' := ⟨_, rfl⟩
                  rw [← hz] at HJAT HDS HHI hj100
                  rw [← hy] at HGI HDS x2
                  clear hz hy hjat
                  cases hq : x.inside z'
                  all_goals
                    have HQ := Lib.hid hq
                    rw [hq] at HHI
                    have hdd := HDS.out
                    rw [hq] at hdd
                    first
                      | rw [if_neg (by decide)] at hdd
                      | rw [if_pos rfl] at hdd
                    try have w1 : IntKind.i64.wrap (dTo x s.all D j' + y) = dTo x s.all D j' + y := IntWalk.i64_in _ (by omega)
                    have HDD := Lib.hid hdd
                    clear hdd hq
                    go_wp2
                    refine region_anyH (fun w' => Mem w w' [.blk g5 35 F.cells, .blk g6 37 p.vals.toArray, .blk g7 39 s.cells, .row (.slice (some ⟨ob, ooff, none⟩) D.length c2) 2 1 D.length (flat oneI D), .row (.slice (some ⟨lb, loff, none⟩) s.all.length c4) 2 1 s.all.length (flat one64 s.all), .row (.slice (some ⟨nb_, noff, none⟩) ns.length c7) 65 4 ns.length (flat Net.vals ns), .blk g36 39 (netSet x).cells]) (by kernel_rfl) ?_
                    have m := M.out.drew
                    clear M
                    have M := Lib.hid m
                    clear m
                    apply takeH (i := 0) 282 rfl (by kernel_rfl) (by kernel_rfl) (by kernel_rfl) (fun _ _ _ h => h) rfl (by first | exact M.out | exact M.out.take 7)
                    case' hy => exact yldw _ _ rfl rfl Try.underlying39 rfl (by first | exact sz39 | (rw [S1.out]; exact sz39) | (rw [S2.out]; exact sz39) | (rw [S3.out]; exact sz39)) rfl (fun w' hS => hS.blk 6 rfl)
                    try simp only [Act.put, List.getElem_toArray, List.getElem_cons_succ, List.getElem_cons_zero, List.setIfInBounds_toArray, List.set_cons_succ, List.set_cons_zero]
                    apply takeH (i := 1) 283 rfl (by kernel_rfl) (by kernel_rfl) (by kernel_rfl) (fun _ _ _ h => h) rfl (by first | exact M.out | exact M.out.take 7)
                    case' hy =>
                      refine Or.inl ⟨by first | rfl | (go_simp; done), ?_⟩
                      intro w hS
                      clear hS
                      go_simp
                      try with_reducible rfl
                    try simp only [Act.put, List.getElem_toArray, List.getElem_cons_succ, List.getElem_cons_zero, List.setIfInBounds_toArray, List.set_cons_succ, List.set_cons_zero]
                    apply takeH (i := 2) 284 rfl (by kernel_rfl) (by kernel_rfl) (by kernel_rfl) (fun _ _ _ h => h) rfl (by first | exact M.out | exact M.out.take 7)
                    case' hy =>
                      refine Or.inl ⟨by first | rfl | (go_simp; done), ?_⟩
                      intro w hS
                      clear hS
                      go_simp
                      try with_reducible rfl
                    try simp only [Act.put, List.getElem_toArray, List.getElem_cons_succ, List.getElem_cons_zero, List.setIfInBounds_toArray, List.set_cons_succ, List.set_cons_zero]
                    apply takeH (i := 3) 285 rfl (by kernel_rfl) (by kernel_rfl) (by kernel_rfl) (fun _ _ _ h => h) rfl (by first | exact M.out | exact M.out.take 7)
                    case' hy =>
                      refine Or.inl ⟨by first | rfl | (go_simp; done), ?_⟩
                      intro w hS
                      clear hS
                      go_simp
                      try with_reducible rfl
                    try simp only [Act.put, List.getElem_toArray, List.getElem_cons_succ, List.getElem_cons_zero, List.setIfInBounds_toArray, List.set_cons_succ, List.set_cons_zero]
                    apply takeH (i := 4) 286 rfl (by kernel_rfl) (by kernel_rfl) (by kernel_rfl) (fun _ _ _ h => h) rfl (by first | exact M.out | exact M.out.take 7)
                    case' hy => exact ylds _ _ rfl rfl Try.underlying2 rfl rfl (fun w' hS => (hS.slof 4 rfl).at64 HJAT.out)
                    try simp only [Act.put, List.getElem_toArray, List.getElem_cons_succ, List.getElem_cons_zero, List.setIfInBounds_toArray, List.set_cons_succ, List.set_cons_zero]
                    refine any1H 5 (by kernel_rfl) rfl (fun K hK => ?_)
                    go_wp2_with (first | ((with_reducible refine gate_dst (N := 282) rfl ?_); go_must (refine M.out.ev_ldw 6 _ _ rfl rfl rfl Try.underlying39 rfl (by first | exact sz39 | (rw [S1.out]; exact sz39) | (rw [S2.out]; exact sz39) | (rw [S3.out]; exact sz39)) rfl ?_)) | (go_at_call 30; go_must (refine (specHasCell_any _ NS.out z' hj100 _).mono ?_); rintro e w_ ⟨rfl, N_⟩; have m := M.out.join N_; clear N_; simp only [List.cons_append, List.nil_append, List.append_nil] at m; have M := Lib.hid m; clear m; rw [HHI.out]))
                    refine onward_normal (hK _ _ ⟨(by first | exact M.out | exact M.out.take 7), ?_⟩)
                    clear hK K
                    try simp only [Act.put, List.getElem_toArray, List.getElem_cons_succ, List.getElem_cons_zero, List.setIfInBounds_toArray, List.set_cons_succ, List.set_cons_zero]
                    refine wpAnyH_done (by kernel_rfl) ?_ _
                    all_goals
                      have x2 := (M.out.slof 3 rfl).atI HGI.out
                      go_wp2
                      exact ⟨⟨j' + 1, by omega, by go_num, by rw [HDD.out]; try (congr 1; omega), M.out⟩, by simp [intOf]; try omega⟩
                · obtain rfl : j' = D.length := by omega
                  have j9 : ¬ ((D.length : Int) < (s.all.length : Int)) := by omega
                  have hfd := HFD.out
                  go_wp2_with (first
                    | ((with_reducible refine gate_dst (N := 297) rfl ?_); refine gate_want rfl ?_; go_must (refine M.out.ev_ldw 6 _ _ rfl rfl rfl Try.underlying39 rfl sz39 rfl ?_))
                    | (go_at_call 30; go_must (refine (specHasCell_any _ NS.out k hk1 _).mono ?_); rintro e w_ ⟨rfl, N_⟩; have m := M.out.join N_; clear N_; simp only [List.cons_append, List.nil_append, List.append_nil] at m; have M := Lib.hid m; clear m; rw [HIN.out])
                    )
                  exact ⟨⟨i + 1, by omega, by go_num, M.out.take 6⟩, by simp [intOf]; try omega⟩
            · obtain rfl : i = ns.length := by omega
              have q1 : ¬ ((ns.length : Int) < (ns.length : Int)) := by omega
              go_wp2
              go_ret
              exact ⟨rfl, M.out.take 0⟩
set_option maxRecDepth 100000 in
set_option maxHeartbeats 1000000 in
theorem lawDuties_any (A B : Option Addr) (na nb : Nat) (bs cs : List Int) (hb : ∀ x ∈ bs, U8.ok x) (hc : ∀ x ∈ cs, U8.ok x) (w : World) (hs : Sl w 1 A bs.length (flat oneB bs)) (ht : Sl w 1 B cs.length (flat oneB cs)) :
    Calls Try.prog 4 #[.slice A bs.length na, .slice B cs.length nb] w fun e w' => e = .returned (.bool true) ∧ Mem w w' [] := by
  by_cases hl : bs.length ≤ 3000 ∧ cs.length ≤ 3000
  · exact FnDuties_any A B na nb bs cs hb hc hl.1 hl.2 w hs ht
  · have M := Lib.hid (Mem.start w)
    have G1 := Lib.hid (show (decide (3000 < bs.length) || decide (3000 < cs.length)) = true by
      rcases Nat.lt_or_ge 3000 bs.length with h | h
      · rw [decide_eq_true h]; rfl
      · rw [decide_eq_true (show 3000 < cs.length by omega), Bool.or_true])
    clear hs ht hb hc hl
    go_enter Try.func4, Try.ntmps4
    go_wp2_with (first
      | (go_at_call 13; go_must (refine (a2Long_any A B bs.length cs.length na nb _).mono ?_); rintro e w_ ⟨rfl, rfl⟩; rw [G1.out])
      )
    go_ret
    exact ⟨rfl, M.out⟩
end Go.Proofs.Ytjkclggdaafmaaa
