/- Texts of a proof, laid together: EatOnce, VisitM. -/
import Derived.Test.YtlonbgomdabmmaaZF07
import Derived.Test.YtlonbgomdabmmaaZF01
namespace Go.Proofs.Ytlonbgomdabmmaa
set_option linter.unusedSimpArgs false
set_option linter.unusedVariables false
open Go.RowKit
attribute [local go_sem] cell?_mk frozen?_mk

def eoCode (F : Fld) (fs : List Int) (x : Flock) : Int := if birdsOk F fs [x] = true then if choiceOf F fs x < 0 then 6 else if x.hunger = 0 then 4 else 0 else 1
def eoF (F : Fld) (fs : List Int) (x : Flock) : Fld := if eoCode F fs x = 0 then F.eat (choiceOf F fs x).toNat x.hunger else Fld.z
def eoV (F : Fld) (fs : List Int) (x : Flock) : Visit := if eoCode F fs x = 0 then ⟨0, choiceOf F fs x, F.eatN (choiceOf F fs x).toNat x.hunger⟩ else Visit.z
theorem goP_seed {F : Fld} {fs : List Int} {x : Flock} {k : Nat} (h : (F.has k && goP F fs x k) = true) : 0 < F.seed k := by
  simp only [goP, Bool.and_eq_true, decide_eq_true_eq] at h
  exact h.2.1
theorem eoF_len {F : Fld} (hF : F.ok) (fs : List Int) (x : Flock) : (eoF F fs x).len := by
  unfold eoF
  split
  · exact Fld.withSeed_len hF.toLen _ _
  · exact Fld.z_len
set_option maxRecDepth 100000 in
set_option maxHeartbeats 2000000 in
theorem impl_EatOnce_any (F : Fld) (hF : F.ok) (fs : List Int) (hfl : fs.length = 100) (hff : ∀ x ∈ fs, -32768 ≤ x ∧ x ≤ 32767) (x : Flock) (hx : x.ok) (w : World) :
    Calls Try.prog 20 #[.agg F.cells, .agg (ints .i16 fs), .agg x.vals.toArray] w fun e w' => e = .returned (.tuple #[.agg (eoF F fs x).cells, .agg (eoV F fs x).vals.toArray, .int .i64 (eoCode F fs x)]) ∧ Mem w w' [] := by
  have M := Lib.hid (Mem.start w)
  have HFF := Lib.hid hff
  have S1 := Lib.hid (Fld.size hF.toLen)
  have S2 := Lib.hid (Fld.size Fld.z_len)
  have HX := Lib.hid (show ∀ y ∈ [x], y.ok from fun y hy => by rw [List.mem_singleton.1 hy]; exact hx)
  have O1 := Lib.hid (Fld.one Fld.z)
  have V1 := Lib.hid (Visit.one Visit.z)
  clear hff
  cases hd : birdsOk F fs [x]
  · have HD := Lib.hid hd
    have HC := Lib.hid (show birdsCode F fs [x] = 1 by rw [birdsCode, hd]; rfl)
    have HE := Lib.hid (show eoCode F fs x = 1 by simp [eoCode, hd])
    clear hd
    go_enter Try.func20, Try.ntmps20
    go_wp2_with (first
      | ((with_reducible refine gate_dst (N := 3) rfl ?_); go_must (refine M.out.ev_new rfl (by first | (go_simp; done) | (go_simp; rfl)) ?_); intro g3 w3 m; simp only [List.cons_append, List.nil_append, zeroFld] at m; have M := Lib.hid m; clear m)
      | ((with_reducible refine gate_dst (N := 4) rfl ?_); go_must (refine M.out.ev_new rfl (by first | (go_simp; done) | (go_simp; rfl)) ?_); intro g4 w4 m; simp only [List.cons_append, List.nil_append, zeroFld] at m; have M := Lib.hid m; clear m)
      | ((with_reducible refine gate_dst (N := 5) rfl ?_); go_must (refine M.out.ev_new rfl (by first | (go_simp; done) | (go_simp; rfl)) ?_); intro g5 w5 m; simp only [List.cons_append, List.nil_append, zeroFld] at m; have M := Lib.hid m; clear m)
      | ((with_reducible refine gate_dst (N := 6) rfl ?_); go_must (refine M.out.ev_new rfl (by first | (go_simp; done) | (go_simp; rfl)) ?_); intro g6 w6 m; simp only [List.cons_append, List.nil_append, zeroFld] at m; have M := Lib.hid m; clear m)
      | ((with_reducible refine gate_dst (N := 7) rfl ?_); go_must (refine M.out.ev_new rfl (by first | (go_simp; done) | (go_simp; rfl)) ?_); intro g7 w7 m; simp only [List.cons_append, List.nil_append, zeroFld] at m; have M := Lib.hid m; clear m)
      | ((with_reducible refine gate_dst (N := 11) rfl ?_); go_must (refine M.out.ev_ldw 2 _ _ rfl rfl rfl Try.underlying48 rfl (by first | exact sz48 | (rw [S1.out]; exact sz48) | (rw [S2.out]; exact sz48) | (rw [S3.out]; exact sz48)) rfl ?_))
      | ((with_reducible refine gate_store (x := .tmp 6) rfl ?_); go_must (refine M.out.ev_stw 3 _ _ _ rfl rfl rfl rfl _ rfl (by first | rfl | (simp only [S1.out]; rfl) | (simp only [S1.out, S2.out]; rfl) | (simp only [S3.out]; rfl) | (simp only [S1.out, S2.out, S3.out]; rfl)) (by first | exact sz29 | (rw [S1.out]; exact sz29) | (rw [S2.out]; exact sz29) | (rw [S3.out]; exact sz29)) (by first | exact ints_one _ _ | exact Fld.one _ | exact O1.out | rfl | (simp [Value.oneCell']; done)) rfl ?_); intro wn m; simp only [List.set_cons_succ, List.set_cons_zero, List.setIfInBounds_toArray, zeroFld] at m; have M := Lib.hid m; clear m)
      | ((with_reducible refine gate_store (x := .tmp 7) rfl ?_); go_must (refine M.out.ev_stw 4 _ _ _ rfl rfl rfl rfl _ rfl (by first | rfl | (simp only [S1.out]; rfl) | (simp only [S1.out, S2.out]; rfl) | (simp only [S3.out]; rfl) | (simp only [S1.out, S2.out, S3.out]; rfl)) (by first | exact sz51 | (rw [S1.out]; exact sz51) | (rw [S2.out]; exact sz51) | (rw [S3.out]; exact sz51)) (by first | exact ints_one _ _ | exact Fld.one _ | exact O1.out | rfl | (simp [Value.oneCell']; done)) rfl ?_); intro wn m; simp only [List.set_cons_succ, List.set_cons_zero, List.setIfInBounds_toArray, zeroFld] at m; have M := Lib.hid m; clear m)
      | ((with_reducible refine gate_store (x := .tmp 6) rfl ?_); go_must (refine M.out.ev_stw 3 _ _ _ rfl rfl rfl rfl _ rfl (by first | rfl | (simp only [S1.out]; rfl) | (simp only [S1.out, S2.out]; rfl) | (simp only [S3.out]; rfl) | (simp only [S1.out, S2.out, S3.out]; rfl)) (by first | exact sz29 | (rw [S1.out]; exact sz29) | (rw [S2.out]; exact sz29) | (rw [S3.out]; exact sz29)) (by first | exact ints_one _ _ | exact Fld.one _ | exact O1.out | rfl | (simp [Value.oneCell']; done)) rfl ?_); intro wn m; simp only [List.set_cons_succ, List.set_cons_zero, List.setIfInBounds_toArray, zeroFld] at m; have M := Lib.hid m; clear m)
      | ((with_reducible refine gate_store (x := .tmp 7) rfl ?_); go_must (refine M.out.ev_stw 4 _ _ _ rfl rfl rfl rfl _ rfl (by first | rfl | (simp only [S1.out]; rfl) | (simp only [S1.out, S2.out]; rfl) | (simp only [S3.out]; rfl) | (simp only [S1.out, S2.out, S3.out]; rfl)) (by first | exact sz51 | (rw [S1.out]; exact sz51) | (rw [S2.out]; exact sz51) | (rw [S3.out]; exact sz51)) (by first | exact ints_one _ _ | exact Fld.one _ | exact O1.out | rfl | (simp [Value.oneCell']; done)) rfl ?_); intro wn m; simp only [List.set_cons_succ, List.set_cons_zero, List.setIfInBounds_toArray, zeroFld] at m; have M := Lib.hid m; clear m)
      | ((with_reducible refine gate_store (x := .tmp 6) rfl ?_); go_must (refine M.out.ev_stw 3 _ _ _ rfl rfl rfl rfl _ rfl (by first | rfl | (simp only [S1.out]; rfl) | (simp only [S1.out, S2.out]; rfl) | (simp only [S3.out]; rfl) | (simp only [S1.out, S2.out, S3.out]; rfl)) (by first | exact sz29 | (rw [S1.out]; exact sz29) | (rw [S2.out]; exact sz29) | (rw [S3.out]; exact sz29)) (by first | exact ints_one _ _ | exact Fld.one _ | exact O1.out | rfl | (simp [Value.oneCell']; done)) rfl ?_); intro wn m; simp only [List.set_cons_succ, List.set_cons_zero, List.setIfInBounds_toArray, zeroFld] at m; have M := Lib.hid m; clear m)
      | ((with_reducible refine gate_store (x := .tmp 7) rfl ?_); go_must (refine M.out.ev_stw 4 _ _ _ rfl rfl rfl rfl _ rfl (by first | rfl | (simp only [S1.out]; rfl) | (simp only [S1.out, S2.out]; rfl) | (simp only [S3.out]; rfl) | (simp only [S1.out, S2.out, S3.out]; rfl)) (by first | exact sz51 | (rw [S1.out]; exact sz51) | (rw [S2.out]; exact sz51) | (rw [S3.out]; exact sz51)) (by first | exact ints_one _ _ | exact Fld.one _ | exact O1.out | rfl | (simp [Value.oneCell']; done)) rfl ?_); intro wn m; simp only [List.set_cons_succ, List.set_cons_zero, List.setIfInBounds_toArray, zeroFld] at m; have M := Lib.hid m; clear m)
      | ((with_reducible refine gate_dst (N := 31) rfl ?_); go_must (refine M.out.ev_ldw 0 _ _ rfl rfl rfl Try.underlying29 rfl (by first | exact sz29 | (rw [S1.out]; exact sz29) | (rw [S2.out]; exact sz29) | (rw [S3.out]; exact sz29)) rfl ?_))
      | ((with_reducible refine gate_store (x := .tmp 6) rfl ?_); go_must (refine M.out.ev_stw 3 _ _ _ rfl rfl rfl rfl _ rfl (by first | rfl | (simp only [S1.out]; rfl) | (simp only [S1.out, S2.out]; rfl) | (simp only [S3.out]; rfl) | (simp only [S1.out, S2.out, S3.out]; rfl)) (by first | exact sz29 | (rw [S1.out]; exact sz29) | (rw [S2.out]; exact sz29) | (rw [S3.out]; exact sz29)) (by first | exact ints_one _ _ | exact Fld.one _ | exact O1.out | rfl | (simp [Value.oneCell']; done)) rfl ?_); intro wn m; simp only [List.set_cons_succ, List.set_cons_zero, List.setIfInBounds_toArray, zeroFld] at m; have M := Lib.hid m; clear m)
      | ((with_reducible refine gate_store (x := .tmp 7) rfl ?_); go_must (refine M.out.ev_stw 4 _ _ _ rfl rfl rfl rfl _ rfl (by first | rfl | (simp only [S1.out]; rfl) | (simp only [S1.out, S2.out]; rfl) | (simp only [S3.out]; rfl) | (simp only [S1.out, S2.out, S3.out]; rfl)) (by first | exact sz51 | (rw [S1.out]; exact sz51) | (rw [S2.out]; exact sz51) | (rw [S3.out]; exact sz51)) (by first | exact ints_one _ _ | exact Fld.one _ | exact O1.out | rfl | (simp [Value.oneCell']; done)) rfl ?_); intro wn m; simp only [List.set_cons_succ, List.set_cons_zero, List.setIfInBounds_toArray, zeroFld] at m; have M := Lib.hid m; clear m)
      | ((with_reducible refine gate_dst (N := 12) rfl ?_); go_must (refine M.out.ev_bs1 elem_Flock rfl _ rfl x.vals.toArray rfl rfl (by decide) ?_); intro g12 w12 m; simp only [List.cons_append, List.nil_append] at m; have M := Lib.hid m; clear m)
          | (go_at_call 33; go_must (refine (areBirds_any _ _ F hF fs hfl HFF.out _ _ [x] HX.out (by simp) _ (M.out.blk 0 rfl) (M.out.blk 1 rfl) (sl_blk (M.out.blk 5 rfl))).mono ?_); rintro e w_ ⟨rfl, N_⟩; have m := M.out.join N_; clear N_; simp only [List.cons_append, List.nil_append, List.append_nil] at m; have M := Lib.hid m; clear m; rw [HD.out])
      )
    refine ret_cct rfl ((M.out.blk 3 rfl).var Try.underlying29 rfl (by first | (rw [S2.out]; exact sz29) | (rw [S3.out]; exact sz29))) ((M.out.blk 4 rfl).var Try.underlying51 rfl sz51) ⟨?_, M.out.take 0⟩
    simp only [eoF, eoV, HE.out]
    rfl
  · have HD := Lib.hid hd
    have HC := Lib.hid (show birdsCode F fs [x] = 0 by rw [birdsCode, hd]; rfl)
    have HP := Lib.hid (birds1_plain hd)
    have hco := choice_of F fs x
    have HE := Lib.hid (show eoCode F fs x = if choiceOf F fs x < 0 then 6 else if x.hunger = 0 then 4 else 0 by simp [eoCode, hd])
    have HEF := Lib.hid (show eoF F fs x = if eoCode F fs x = 0 then F.eat (choiceOf F fs x).toNat x.hunger else Fld.z from rfl)
    have HEV := Lib.hid (show eoV F fs x = if eoCode F fs x = 0 then ⟨0, choiceOf F fs x, F.eatN (choiceOf F fs x).toNat x.hunger⟩ else Visit.z from rfl)
    clear hd
    have CH := Lib.hid (fun g fb p w hb hfb hr => choice_any g fb p 0 F hF fs hfl HFF.out x HP.out w hb hfb hr (t := 29) (tf := 31))
    have HU := Lib.hid (fun p w hr => hunger_any p 0 x HP.out w hr)
    have hh := hunger_small HP.out
    obtain ⟨C, hC⟩ : ∃ C, C = choiceOf F fs x := ⟨_, rfl⟩
    obtain ⟨H, hH⟩ : ∃ H, H = x.hunger := ⟨_, rfl⟩
    rw [← hC] at CH HE HEF HEV hco
    rw [← hH] at HU HE HEF HEV hh
    clear hC hH
    rcases hco with rfl | ⟨k, k0, kp, rfl⟩
    · have HE1 := Lib.hid (show eoCode F fs x = 6 by rw [HE.out]; rfl)
      go_enter Try.func20, Try.ntmps20
      go_wp2_with (first
        | ((with_reducible refine gate_dst (N := 3) rfl ?_); go_must (refine M.out.ev_new rfl (by first | (go_simp; done) | (go_simp; rfl)) ?_); intro g3 w3 m; simp only [List.cons_append, List.nil_append, zeroFld] at m; have M := Lib.hid m; clear m)
        | ((with_reducible refine gate_dst (N := 4) rfl ?_); go_must (refine M.out.ev_new rfl (by first | (go_simp; done) | (go_simp; rfl)) ?_); intro g4 w4 m; simp only [List.cons_append, List.nil_append, zeroFld] at m; have M := Lib.hid m; clear m)
        | ((with_reducible refine gate_dst (N := 5) rfl ?_); go_must (refine M.out.ev_new rfl (by first | (go_simp; done) | (go_simp; rfl)) ?_); intro g5 w5 m; simp only [List.cons_append, List.nil_append, zeroFld] at m; have M := Lib.hid m; clear m)
        | ((with_reducible refine gate_dst (N := 6) rfl ?_); go_must (refine M.out.ev_new rfl (by first | (go_simp; done) | (go_simp; rfl)) ?_); intro g6 w6 m; simp only [List.cons_append, List.nil_append, zeroFld] at m; have M := Lib.hid m; clear m)
        | ((with_reducible refine gate_dst (N := 7) rfl ?_); go_must (refine M.out.ev_new rfl (by first | (go_simp; done) | (go_simp; rfl)) ?_); intro g7 w7 m; simp only [List.cons_append, List.nil_append, zeroFld] at m; have M := Lib.hid m; clear m)
        | ((with_reducible refine gate_dst (N := 11) rfl ?_); go_must (refine M.out.ev_ldw 2 _ _ rfl rfl rfl Try.underlying48 rfl (by first | exact sz48 | (rw [S1.out]; exact sz48) | (rw [S2.out]; exact sz48) | (rw [S3.out]; exact sz48)) rfl ?_))
        | ((with_reducible refine gate_store (x := .tmp 6) rfl ?_); go_must (refine M.out.ev_stw 3 _ _ _ rfl rfl rfl rfl _ rfl (by first | rfl | (simp only [S1.out]; rfl) | (simp only [S1.out, S2.out]; rfl) | (simp only [S3.out]; rfl) | (simp only [S1.out, S2.out, S3.out]; rfl)) (by first | exact sz29 | (rw [S1.out]; exact sz29) | (rw [S2.out]; exact sz29) | (rw [S3.out]; exact sz29)) (by first | exact ints_one _ _ | exact Fld.one _ | exact O1.out | rfl | (simp [Value.oneCell']; done)) rfl ?_); intro wn m; simp only [List.set_cons_succ, List.set_cons_zero, List.setIfInBounds_toArray, zeroFld] at m; have M := Lib.hid m; clear m)
        | ((with_reducible refine gate_store (x := .tmp 7) rfl ?_); go_must (refine M.out.ev_stw 4 _ _ _ rfl rfl rfl rfl _ rfl (by first | rfl | (simp only [S1.out]; rfl) | (simp only [S1.out, S2.out]; rfl) | (simp only [S3.out]; rfl) | (simp only [S1.out, S2.out, S3.out]; rfl)) (by first | exact sz51 | (rw [S1.out]; exact sz51) | (rw [S2.out]; exact sz51) | (rw [S3.out]; exact sz51)) (by first | exact ints_one _ _ | exact Fld.one _ | exact O1.out | rfl | (simp [Value.oneCell']; done)) rfl ?_); intro wn m; simp only [List.set_cons_succ, List.set_cons_zero, List.setIfInBounds_toArray, zeroFld] at m; have M := Lib.hid m; clear m)
        | ((with_reducible refine gate_store (x := .tmp 6) rfl ?_); go_must (refine M.out.ev_stw 3 _ _ _ rfl rfl rfl rfl _ rfl (by first | rfl | (simp only [S1.out]; rfl) | (simp only [S1.out, S2.out]; rfl) | (simp only [S3.out]; rfl) | (simp only [S1.out, S2.out, S3.out]; rfl)) (by first | exact sz29 | (rw [S1.out]; exact sz29) | (rw [S2.out]; exact sz29) | (rw [S3.out]; exact sz29)) (by first | exact ints_one _ _ | exact Fld.one _ | exact O1.out | rfl | (simp [Value.oneCell']; done)) rfl ?_); intro wn m; simp only [List.set_cons_succ, List.set_cons_zero, List.setIfInBounds_toArray, zeroFld] at m; have M := Lib.hid m; clear m)
        | ((with_reducible refine gate_store (x := .tmp 7) rfl ?_); go_must (refine M.out.ev_stw 4 _ _ _ rfl rfl rfl rfl _ rfl (by first | rfl | (simp only [S1.out]; rfl) | (simp only [S1.out, S2.out]; rfl) | (simp only [S3.out]; rfl) | (simp only [S1.out, S2.out, S3.out]; rfl)) (by first | exact sz51 | (rw [S1.out]; exact sz51) | (rw [S2.out]; exact sz51) | (rw [S3.out]; exact sz51)) (by first | exact ints_one _ _ | exact Fld.one _ | exact O1.out | rfl | (simp [Value.oneCell']; done)) rfl ?_); intro wn m; simp only [List.set_cons_succ, List.set_cons_zero, List.setIfInBounds_toArray, zeroFld] at m; have M := Lib.hid m; clear m)
        | ((with_reducible refine gate_store (x := .tmp 6) rfl ?_); go_must (refine M.out.ev_stw 3 _ _ _ rfl rfl rfl rfl _ rfl (by first | rfl | (simp only [S1.out]; rfl) | (simp only [S1.out, S2.out]; rfl) | (simp only [S3.out]; rfl) | (simp only [S1.out, S2.out, S3.out]; rfl)) (by first | exact sz29 | (rw [S1.out]; exact sz29) | (rw [S2.out]; exact sz29) | (rw [S3.out]; exact sz29)) (by first | exact ints_one _ _ | exact Fld.one _ | exact O1.out | rfl | (simp [Value.oneCell']; done)) rfl ?_); intro wn m; simp only [List.set_cons_succ, List.set_cons_zero, List.setIfInBounds_toArray, zeroFld] at m; have M := Lib.hid m; clear m)
        | ((with_reducible refine gate_store (x := .tmp 7) rfl ?_); go_must (refine M.out.ev_stw 4 _ _ _ rfl rfl rfl rfl _ rfl (by first | rfl | (simp only [S1.out]; rfl) | (simp only [S1.out, S2.out]; rfl) | (simp only [S3.out]; rfl) | (simp only [S1.out, S2.out, S3.out]; rfl)) (by first | exact sz51 | (rw [S1.out]; exact sz51) | (rw [S2.out]; exact sz51) | (rw [S3.out]; exact sz51)) (by first | exact ints_one _ _ | exact Fld.one _ | exact O1.out | rfl | (simp [Value.oneCell']; done)) rfl ?_); intro wn m; simp only [List.set_cons_succ, List.set_cons_zero, List.setIfInBounds_toArray, zeroFld] at m; have M := Lib.hid m; clear m)
        | ((with_reducible refine gate_dst (N := 31) rfl ?_); go_must (refine M.out.ev_ldw 0 _ _ rfl rfl rfl Try.underlying29 rfl (by first | exact sz29 | (rw [S1.out]; exact sz29) | (rw [S2.out]; exact sz29) | (rw [S3.out]; exact sz29)) rfl ?_))
        | ((with_reducible refine gate_store (x := .tmp 6) rfl ?_); go_must (refine M.out.ev_stw 3 _ _ _ rfl rfl rfl rfl _ rfl (by first | rfl | (simp only [S1.out]; rfl) | (simp only [S1.out, S2.out]; rfl) | (simp only [S3.out]; rfl) | (simp only [S1.out, S2.out, S3.out]; rfl)) (by first | exact sz29 | (rw [S1.out]; exact sz29) | (rw [S2.out]; exact sz29) | (rw [S3.out]; exact sz29)) (by first | exact ints_one _ _ | exact Fld.one _ | exact O1.out | rfl | (simp [Value.oneCell']; done)) rfl ?_); intro wn m; simp only [List.set_cons_succ, List.set_cons_zero, List.setIfInBounds_toArray, zeroFld] at m; have M := Lib.hid m; clear m)
        | ((with_reducible refine gate_store (x := .tmp 7) rfl ?_); go_must (refine M.out.ev_stw 4 _ _ _ rfl rfl rfl rfl _ rfl (by first | rfl | (simp only [S1.out]; rfl) | (simp only [S1.out, S2.out]; rfl) | (simp only [S3.out]; rfl) | (simp only [S1.out, S2.out, S3.out]; rfl)) (by first | exact sz51 | (rw [S1.out]; exact sz51) | (rw [S2.out]; exact sz51) | (rw [S3.out]; exact sz51)) (by first | exact ints_one _ _ | exact Fld.one _ | exact O1.out | rfl | (simp [Value.oneCell']; done)) rfl ?_); intro wn m; simp only [List.set_cons_succ, List.set_cons_zero, List.setIfInBounds_toArray, zeroFld] at m; have M := Lib.hid m; clear m)
        | ((with_reducible refine gate_dst (N := 12) rfl ?_); go_must (refine M.out.ev_bs1 elem_Flock rfl _ rfl x.vals.toArray rfl rfl (by decide) ?_); intro g12 w12 m; simp only [List.cons_append, List.nil_append] at m; have M := Lib.hid m; clear m)
          | (go_at_call 33; go_must (refine (areBirds_any _ _ F hF fs hfl HFF.out _ _ [x] HX.out (by simp) _ (M.out.blk 0 rfl) (M.out.blk 1 rfl) (sl_blk (M.out.blk 5 rfl))).mono ?_); rintro e w_ ⟨rfl, N_⟩; have m := M.out.join N_; clear N_; simp only [List.cons_append, List.nil_append, List.append_nil] at m; have M := Lib.hid m; clear m; rw [HD.out])
        | (go_at_call 49; go_must (refine (CH.out _ _ _ _ (M.out.blk 0 rfl) (M.out.blk 1 rfl) (M.out.blk 2 rfl).range).mono ?_); rintro e w_ ⟨rfl, N_⟩; have m := M.out.join N_; clear N_; simp only [List.cons_append, List.nil_append, List.append_nil] at m; have M := Lib.hid m; clear m)
        )
      refine ret_cct rfl ((M.out.blk 3 rfl).var Try.underlying29 rfl (by first | (rw [S2.out]; exact sz29) | (rw [S3.out]; exact sz29))) ((M.out.blk 4 rfl).var Try.underlying51 rfl sz51) ⟨?_, M.out.take 0⟩
      rw [HEF.out, HEV.out, HE1.out]
      rfl
    · have z0 : ¬ ((k : Int) < 0) := by omega
      have Z0 := Lib.hid z0
      by_cases hz : H = 0
      · subst hz
        have HE1 := Lib.hid (show eoCode F fs x = 4 by rw [HE.out, if_neg Z0.out]; rfl)
        go_enter Try.func20, Try.ntmps20
        go_wp2_with (first
          | ((with_reducible refine gate_dst (N := 3) rfl ?_); go_must (refine M.out.ev_new rfl (by first | (go_simp; done) | (go_simp; rfl)) ?_); intro g3 w3 m; simp only [List.cons_append, List.nil_append, zeroFld] at m; have M := Lib.hid m; clear m)
          | ((with_reducible refine gate_dst (N := 4) rfl ?_); go_must (refine M.out.ev_new rfl (by first | (go_simp; done) | (go_simp; rfl)) ?_); intro g4 w4 m; simp only [List.cons_append, List.nil_append, zeroFld] at m; have M := Lib.hid m; clear m)
          | ((with_reducible refine gate_dst (N := 5) rfl ?_); go_must (refine M.out.ev_new rfl (by first | (go_simp; done) | (go_simp; rfl)) ?_); intro g5 w5 m; simp only [List.cons_append, List.nil_append, zeroFld] at m; have M := Lib.hid m; clear m)
          | ((with_reducible refine gate_dst (N := 6) rfl ?_); go_must (refine M.out.ev_new rfl (by first | (go_simp; done) | (go_simp; rfl)) ?_); intro g6 w6 m; simp only [List.cons_append, List.nil_append, zeroFld] at m; have M := Lib.hid m; clear m)
          | ((with_reducible refine gate_dst (N := 7) rfl ?_); go_must (refine M.out.ev_new rfl (by first | (go_simp; done) | (go_simp; rfl)) ?_); intro g7 w7 m; simp only [List.cons_append, List.nil_append, zeroFld] at m; have M := Lib.hid m; clear m)
          | ((with_reducible refine gate_dst (N := 11) rfl ?_); go_must (refine M.out.ev_ldw 2 _ _ rfl rfl rfl Try.underlying48 rfl (by first | exact sz48 | (rw [S1.out]; exact sz48) | (rw [S2.out]; exact sz48) | (rw [S3.out]; exact sz48)) rfl ?_))
          | ((with_reducible refine gate_store (x := .tmp 6) rfl ?_); go_must (refine M.out.ev_stw 3 _ _ _ rfl rfl rfl rfl _ rfl (by first | rfl | (simp only [S1.out]; rfl) | (simp only [S1.out, S2.out]; rfl) | (simp only [S3.out]; rfl) | (simp only [S1.out, S2.out, S3.out]; rfl)) (by first | exact sz29 | (rw [S1.out]; exact sz29) | (rw [S2.out]; exact sz29) | (rw [S3.out]; exact sz29)) (by first | exact ints_one _ _ | exact Fld.one _ | exact O1.out | rfl | (simp [Value.oneCell']; done)) rfl ?_); intro wn m; simp only [List.set_cons_succ, List.set_cons_zero, List.setIfInBounds_toArray, zeroFld] at m; have M := Lib.hid m; clear m)
          | ((with_reducible refine gate_store (x := .tmp 7) rfl ?_); go_must (refine M.out.ev_stw 4 _ _ _ rfl rfl rfl rfl _ rfl (by first | rfl | (simp only [S1.out]; rfl) | (simp only [S1.out, S2.out]; rfl) | (simp only [S3.out]; rfl) | (simp only [S1.out, S2.out, S3.out]; rfl)) (by first | exact sz51 | (rw [S1.out]; exact sz51) | (rw [S2.out]; exact sz51) | (rw [S3.out]; exact sz51)) (by first | exact ints_one _ _ | exact Fld.one _ | exact O1.out | rfl | (simp [Value.oneCell']; done)) rfl ?_); intro wn m; simp only [List.set_cons_succ, List.set_cons_zero, List.setIfInBounds_toArray, zeroFld] at m; have M := Lib.hid m; clear m)
          | ((with_reducible refine gate_store (x := .tmp 6) rfl ?_); go_must (refine M.out.ev_stw 3 _ _ _ rfl rfl rfl rfl _ rfl (by first | rfl | (simp only [S1.out]; rfl) | (simp only [S1.out, S2.out]; rfl) | (simp only [S3.out]; rfl) | (simp only [S1.out, S2.out, S3.out]; rfl)) (by first | exact sz29 | (rw [S1.out]; exact sz29) | (rw [S2.out]; exact sz29) | (rw [S3.out]; exact sz29)) (by first | exact ints_one _ _ | exact Fld.one _ | exact O1.out | rfl | (simp [Value.oneCell']; done)) rfl ?_); intro wn m; simp only [List.set_cons_succ, List.set_cons_zero, List.setIfInBounds_toArray, zeroFld] at m; have M := Lib.hid m; clear m)
          | ((with_reducible refine gate_store (x := .tmp 7) rfl ?_); go_must (refine M.out.ev_stw 4 _ _ _ rfl rfl rfl rfl _ rfl (by first | rfl | (simp only [S1.out]; rfl) | (simp only [S1.out, S2.out]; rfl) | (simp only [S3.out]; rfl) | (simp only [S1.out, S2.out, S3.out]; rfl)) (by first | exact sz51 | (rw [S1.out]; exact sz51) | (rw [S2.out]; exact sz51) | (rw [S3.out]; exact sz51)) (by first | exact ints_one _ _ | exact Fld.one _ | exact O1.out | rfl | (simp [Value.oneCell']; done)) rfl ?_); intro wn m; simp only [List.set_cons_succ, List.set_cons_zero, List.setIfInBounds_toArray, zeroFld] at m; have M := Lib.hid m; clear m)
          | ((with_reducible refine gate_store (x := .tmp 6) rfl ?_); go_must (refine M.out.ev_stw 3 _ _ _ rfl rfl rfl rfl _ rfl (by first | rfl | (simp only [S1.out]; rfl) | (simp only [S1.out, S2.out]; rfl) | (simp only [S3.out]; rfl) | (simp only [S1.out, S2.out, S3.out]; rfl)) (by first | exact sz29 | (rw [S1.out]; exact sz29) | (rw [S2.out]; exact sz29) | (rw [S3.out]; exact sz29)) (by first | exact ints_one _ _ | exact Fld.one _ | exact O1.out | rfl | (simp [Value.oneCell']; done)) rfl ?_); intro wn m; simp only [List.set_cons_succ, List.set_cons_zero, List.setIfInBounds_toArray, zeroFld] at m; have M := Lib.hid m; clear m)
          | ((with_reducible refine gate_store (x := .tmp 7) rfl ?_); go_must (refine M.out.ev_stw 4 _ _ _ rfl rfl rfl rfl _ rfl (by first | rfl | (simp only [S1.out]; rfl) | (simp only [S1.out, S2.out]; rfl) | (simp only [S3.out]; rfl) | (simp only [S1.out, S2.out, S3.out]; rfl)) (by first | exact sz51 | (rw [S1.out]; exact sz51) | (rw [S2.out]; exact sz51) | (rw [S3.out]; exact sz51)) (by first | exact ints_one _ _ | exact Fld.one _ | exact O1.out | rfl | (simp [Value.oneCell']; done)) rfl ?_); intro wn m; simp only [List.set_cons_succ, List.set_cons_zero, List.setIfInBounds_toArray, zeroFld] at m; have M := Lib.hid m; clear m)
          | ((with_reducible refine gate_dst (N := 31) rfl ?_); go_must (refine M.out.ev_ldw 0 _ _ rfl rfl rfl Try.underlying29 rfl (by first | exact sz29 | (rw [S1.out]; exact sz29) | (rw [S2.out]; exact sz29) | (rw [S3.out]; exact sz29)) rfl ?_))
          | ((with_reducible refine gate_store (x := .tmp 6) rfl ?_); go_must (refine M.out.ev_stw 3 _ _ _ rfl rfl rfl rfl _ rfl (by first | rfl | (simp only [S1.out]; rfl) | (simp only [S1.out, S2.out]; rfl) | (simp only [S3.out]; rfl) | (simp only [S1.out, S2.out, S3.out]; rfl)) (by first | exact sz29 | (rw [S1.out]; exact sz29) | (rw [S2.out]; exact sz29) | (rw [S3.out]; exact sz29)) (by first | exact ints_one _ _ | exact Fld.one _ | exact O1.out | rfl | (simp [Value.oneCell']; done)) rfl ?_); intro wn m; simp only [List.set_cons_succ, List.set_cons_zero, List.setIfInBounds_toArray, zeroFld] at m; have M := Lib.hid m; clear m)
          | ((with_reducible refine gate_store (x := .tmp 7) rfl ?_); go_must (refine M.out.ev_stw 4 _ _ _ rfl rfl rfl rfl _ rfl (by first | rfl | (simp only [S1.out]; rfl) | (simp only [S1.out, S2.out]; rfl) | (simp only [S3.out]; rfl) | (simp only [S1.out, S2.out, S3.out]; rfl)) (by first | exact sz51 | (rw [S1.out]; exact sz51) | (rw [S2.out]; exact sz51) | (rw [S3.out]; exact sz51)) (by first | exact ints_one _ _ | exact Fld.one _ | exact O1.out | rfl | (simp [Value.oneCell']; done)) rfl ?_); intro wn m; simp only [List.set_cons_succ, List.set_cons_zero, List.setIfInBounds_toArray, zeroFld] at m; have M := Lib.hid m; clear m)
          | ((with_reducible refine gate_dst (N := 12) rfl ?_); go_must (refine M.out.ev_bs1 elem_Flock rfl _ rfl x.vals.toArray rfl rfl (by decide) ?_); intro g12 w12 m; simp only [List.cons_append, List.nil_append] at m; have M := Lib.hid m; clear m)
          | (go_at_call 33; go_must (refine (areBirds_any _ _ F hF fs hfl HFF.out _ _ [x] HX.out (by simp) _ (M.out.blk 0 rfl) (M.out.blk 1 rfl) (sl_blk (M.out.blk 5 rfl))).mono ?_); rintro e w_ ⟨rfl, N_⟩; have m := M.out.join N_; clear N_; simp only [List.cons_append, List.nil_append, List.append_nil] at m; have M := Lib.hid m; clear m; rw [HD.out])
          | (go_at_call 49; go_must (refine (CH.out _ _ _ _ (M.out.blk 0 rfl) (M.out.blk 1 rfl) (M.out.blk 2 rfl).range).mono ?_); rintro e w_ ⟨rfl, N_⟩; have m := M.out.join N_; clear N_; simp only [List.cons_append, List.nil_append, List.append_nil] at m; have M := Lib.hid m; clear m)
          | (go_at_call 44; go_must (refine (HU.out _ _ (M.out.blk 2 rfl).range).mono ?_); rintro e w_ ⟨rfl, N_⟩; have m := M.out.join N_; clear N_; simp only [List.cons_append, List.nil_append, List.append_nil] at m; have M := Lib.hid m; clear m)
          )
        refine ret_cct rfl ((M.out.blk 3 rfl).var Try.underlying29 rfl (by first | (rw [S2.out]; exact sz29) | (rw [S3.out]; exact sz29))) ((M.out.blk 4 rfl).var Try.underlying51 rfl sz51) ⟨?_, M.out.take 0⟩
        rw [HEF.out, HEV.out, HE1.out]
        rfl
      · have hzb : (H == 0) = false := by simp [hz]
        have HE1 := Lib.hid (show eoCode F fs x = 0 by rw [HE.out, if_neg Z0.out, if_neg hz])
        have hsd := goP_seed kp
        have hsb := hF.sb k
        have i16k : IntKind.i16.wrap (k : Int) = k := IntWalk.i16_in _ (by omega)
        have hn : 0 ≤ F.eatN k H ∧ F.eatN k H ≤ F.seed k := by unfold Fld.eatN; omega
        have hok := Fld.eat_ok hF k hh.1 (by omega : 0 ≤ F.seed k)
        have TK := Lib.hid (fun (w0 w : World) (L : List Ent) (i : Nat) (M0 : Mem w0 w L) (g : Nat) (hL : L[i]? = some (.blk g 29 F.cells)) => take_any i M0 g F hF hL k k0 H hh.1 (by omega))
        have HN := Lib.hid (show F.eatN (k : Int).toNat H = F.eatN k H by rw [Int.toNat_natCast])
        have HG := Lib.hid (show F.eat (k : Int).toNat H = F.eat k H by rw [Int.toNat_natCast])
        obtain ⟨N, hN⟩ : ∃ N, N = F.eatN k H := ⟨_, rfl⟩
        obtain ⟨G, hG⟩ : ∃ G, G = F.eat k H := ⟨_, rfl⟩
        rw [← hN] at TK HN hn
        rw [← hG] at TK HG hok
        have S3 := Lib.hid (Fld.size hok.toLen)
        have O2 := Lib.hid (Fld.one G)
        have V2 := Lib.hid (Visit.one ⟨0, k, N⟩)
        have i16n : IntKind.i16.wrap N = N := IntWalk.i16_in _ (by omega)
        clear hN hG hz kp hsd hsb hok
        go_enter Try.func20, Try.ntmps20
        go_wp2_with (first
          | ((with_reducible refine gate_dst (N := 12) rfl ?_); go_must (refine M.out.ev_bs1 elem_Flock rfl _ rfl x.vals.toArray rfl rfl (by decide) ?_); intro g12 w12 m; simp only [List.cons_append, List.nil_append] at m; have M := Lib.hid m; clear m)
          | (go_at_call 33; go_must (refine (areBirds_any _ _ F hF fs hfl HFF.out _ _ [x] HX.out (by simp) _ (M.out.blk 0 rfl) (M.out.blk 1 rfl) (sl_blk (M.out.blk 5 rfl))).mono ?_); rintro e w_ ⟨rfl, N_⟩; have m := M.out.join N_; clear N_; simp only [List.cons_append, List.nil_append, List.append_nil] at m; have M := Lib.hid m; clear m; rw [HD.out])
          | (go_at_call 49; go_must (refine (CH.out _ _ _ _ (M.out.blk 0 rfl) (M.out.blk 1 rfl) (M.out.blk 2 rfl).range).mono ?_); rintro e w_ ⟨rfl, N_⟩; have m := M.out.join N_; clear N_; simp only [List.cons_append, List.nil_append, List.append_nil] at m; have M := Lib.hid m; clear m)
          | (go_at_call 44; go_must (refine (HU.out _ _ (M.out.blk 2 rfl).range).mono ?_); rintro e w_ ⟨rfl, N_⟩; have m := M.out.join N_; clear N_; simp only [List.cons_append, List.nil_append, List.append_nil] at m; have M := Lib.hid m; clear m)
          | (go_at_call 50; go_must (refine (TK.out _ _ _ 0 M.out _ rfl).mono ?_); rintro e w_ ⟨rfl, m⟩; simp only [List.set_cons_zero] at m; have M := Lib.hid m; clear m)
          | ((with_reducible refine gate_dst (N := 31) rfl ?_); go_must (refine M.out.ev_ldw 0 _ _ rfl rfl rfl Try.underlying29 rfl (by rw [S3.out]; exact sz29) rfl ?_))
          | ((with_reducible refine gate_store (x := .tmp 7) rfl ?_); go_must (refine M.out.ev_stw 4 _ _ _ rfl rfl rfl rfl (Visit.vals ⟨0, k, N⟩).toArray rfl rfl sz51 V2.out rfl ?_); intro wn m; simp only [List.set_cons_succ, List.set_cons_zero] at m; have M := Lib.hid m; clear m)
          | ((with_reducible refine gate_store (x := .tmp 6) rfl ?_); go_must (refine M.out.ev_stw 3 _ _ _ rfl rfl rfl rfl G.cells rfl (by rw [S2.out, S3.out]) (by rw [S3.out]; exact sz29) O2.out rfl ?_); intro wn m; simp only [List.set_cons_succ, List.set_cons_zero] at m; have M := Lib.hid m; clear m)
          
          | ((with_reducible refine gate_dst (N := 3) rfl ?_); go_must (refine M.out.ev_new rfl (by first | (go_simp; done) | (go_simp; rfl)) ?_); intro g3 w3 m; simp only [List.cons_append, List.nil_append, zeroFld] at m; have M := Lib.hid m; clear m)
          | ((with_reducible refine gate_dst (N := 4) rfl ?_); go_must (refine M.out.ev_new rfl (by first | (go_simp; done) | (go_simp; rfl)) ?_); intro g4 w4 m; simp only [List.cons_append, List.nil_append, zeroFld] at m; have M := Lib.hid m; clear m)
          | ((with_reducible refine gate_dst (N := 5) rfl ?_); go_must (refine M.out.ev_new rfl (by first | (go_simp; done) | (go_simp; rfl)) ?_); intro g5 w5 m; simp only [List.cons_append, List.nil_append, zeroFld] at m; have M := Lib.hid m; clear m)
          | ((with_reducible refine gate_dst (N := 6) rfl ?_); go_must (refine M.out.ev_new rfl (by first | (go_simp; done) | (go_simp; rfl)) ?_); intro g6 w6 m; simp only [List.cons_append, List.nil_append, zeroFld] at m; have M := Lib.hid m; clear m)
          | ((with_reducible refine gate_dst (N := 7) rfl ?_); go_must (refine M.out.ev_new rfl (by first | (go_simp; done) | (go_simp; rfl)) ?_); intro g7 w7 m; simp only [List.cons_append, List.nil_append, zeroFld] at m; have M := Lib.hid m; clear m)
          | ((with_reducible refine gate_dst (N := 11) rfl ?_); go_must (refine M.out.ev_ldw 2 _ _ rfl rfl rfl Try.underlying48 rfl (by first | exact sz48 | (rw [S1.out]; exact sz48) | (rw [S2.out]; exact sz48) | (rw [S3.out]; exact sz48)) rfl ?_))
          | ((with_reducible refine gate_store (x := .tmp 6) rfl ?_); go_must (refine M.out.ev_stw 3 _ _ _ rfl rfl rfl rfl _ rfl (by first | rfl | (simp only [S1.out]; rfl) | (simp only [S1.out, S2.out]; rfl) | (simp only [S3.out]; rfl) | (simp only [S1.out, S2.out, S3.out]; rfl)) (by first | exact sz29 | (rw [S1.out]; exact sz29) | (rw [S2.out]; exact sz29) | (rw [S3.out]; exact sz29)) (by first | exact ints_one _ _ | exact Fld.one _ | exact O1.out | rfl | (simp [Value.oneCell']; done)) rfl ?_); intro wn m; simp only [List.set_cons_succ, List.set_cons_zero, List.setIfInBounds_toArray, zeroFld] at m; have M := Lib.hid m; clear m)
          | ((with_reducible refine gate_store (x := .tmp 7) rfl ?_); go_must (refine M.out.ev_stw 4 _ _ _ rfl rfl rfl rfl _ rfl (by first | rfl | (simp only [S1.out]; rfl) | (simp only [S1.out, S2.out]; rfl) | (simp only [S3.out]; rfl) | (simp only [S1.out, S2.out, S3.out]; rfl)) (by first | exact sz51 | (rw [S1.out]; exact sz51) | (rw [S2.out]; exact sz51) | (rw [S3.out]; exact sz51)) (by first | exact ints_one _ _ | exact Fld.one _ | exact O1.out | rfl | (simp [Value.oneCell']; done)) rfl ?_); intro wn m; simp only [List.set_cons_succ, List.set_cons_zero, List.setIfInBounds_toArray, zeroFld] at m; have M := Lib.hid m; clear m)
          | ((with_reducible refine gate_store (x := .tmp 6) rfl ?_); go_must (refine M.out.ev_stw 3 _ _ _ rfl rfl rfl rfl _ rfl (by first | rfl | (simp only [S1.out]; rfl) | (simp only [S1.out, S2.out]; rfl) | (simp only [S3.out]; rfl) | (simp only [S1.out, S2.out, S3.out]; rfl)) (by first | exact sz29 | (rw [S1.out]; exact sz29) | (rw [S2.out]; exact sz29) | (rw [S3.out]; exact sz29)) (by first | exact ints_one _ _ | exact Fld.one _ | exact O1.out | rfl | (simp [Value.oneCell']; done)) rfl ?_); intro wn m; simp only [List.set_cons_succ, List.set_cons_zero, List.setIfInBounds_toArray, zeroFld] at m; have M := Lib.hid m; clear m)
          | ((with_reducible refine gate_store (x := .tmp 7) rfl ?_); go_must (refine M.out.ev_stw 4 _ _ _ rfl rfl rfl rfl _ rfl (by first | rfl | (simp only [S1.out]; rfl) | (simp only [S1.out, S2.out]; rfl) | (simp only [S3.out]; rfl) | (simp only [S1.out, S2.out, S3.out]; rfl)) (by first | exact sz51 | (rw [S1.out]; exact sz51) | (rw [S2.out]; exact sz51) | (rw [S3.out]; exact sz51)) (by first | exact ints_one _ _ | exact Fld.one _ | exact O1.out | rfl | (simp [Value.oneCell']; done)) rfl ?_); intro wn m; simp only [List.set_cons_succ, List.set_cons_zero, List.setIfInBounds_toArray, zeroFld] at m; have M := Lib.hid m; clear m)
          | ((with_reducible refine gate_store (x := .tmp 6) rfl ?_); go_must (refine M.out.ev_stw 3 _ _ _ rfl rfl rfl rfl _ rfl (by first | rfl | (simp only [S1.out]; rfl) | (simp only [S1.out, S2.out]; rfl) | (simp only [S3.out]; rfl) | (simp only [S1.out, S2.out, S3.out]; rfl)) (by first | exact sz29 | (rw [S1.out]; exact sz29) | (rw [S2.out]; exact sz29) | (rw [S3.out]; exact sz29)) (by first | exact ints_one _ _ | exact Fld.one _ | exact O1.out | rfl | (simp [Value.oneCell']; done)) rfl ?_); intro wn m; simp only [List.set_cons_succ, List.set_cons_zero, List.setIfInBounds_toArray, zeroFld] at m; have M := Lib.hid m; clear m)
          | ((with_reducible refine gate_store (x := .tmp 7) rfl ?_); go_must (refine M.out.ev_stw 4 _ _ _ rfl rfl rfl rfl _ rfl (by first | rfl | (simp only [S1.out]; rfl) | (simp only [S1.out, S2.out]; rfl) | (simp only [S3.out]; rfl) | (simp only [S1.out, S2.out, S3.out]; rfl)) (by first | exact sz51 | (rw [S1.out]; exact sz51) | (rw [S2.out]; exact sz51) | (rw [S3.out]; exact sz51)) (by first | exact ints_one _ _ | exact Fld.one _ | exact O1.out | rfl | (simp [Value.oneCell']; done)) rfl ?_); intro wn m; simp only [List.set_cons_succ, List.set_cons_zero, List.setIfInBounds_toArray, zeroFld] at m; have M := Lib.hid m; clear m)
          | ((with_reducible refine gate_dst (N := 31) rfl ?_); go_must (refine M.out.ev_ldw 0 _ _ rfl rfl rfl Try.underlying29 rfl (by first | exact sz29 | (rw [S1.out]; exact sz29) | (rw [S2.out]; exact sz29) | (rw [S3.out]; exact sz29)) rfl ?_))
          | ((with_reducible refine gate_store (x := .tmp 6) rfl ?_); go_must (refine M.out.ev_stw 3 _ _ _ rfl rfl rfl rfl _ rfl (by first | rfl | (simp only [S1.out]; rfl) | (simp only [S1.out, S2.out]; rfl) | (simp only [S3.out]; rfl) | (simp only [S1.out, S2.out, S3.out]; rfl)) (by first | exact sz29 | (rw [S1.out]; exact sz29) | (rw [S2.out]; exact sz29) | (rw [S3.out]; exact sz29)) (by first | exact ints_one _ _ | exact Fld.one _ | exact O1.out | rfl | (simp [Value.oneCell']; done)) rfl ?_); intro wn m; simp only [List.set_cons_succ, List.set_cons_zero, List.setIfInBounds_toArray, zeroFld] at m; have M := Lib.hid m; clear m)
          | ((with_reducible refine gate_store (x := .tmp 7) rfl ?_); go_must (refine M.out.ev_stw 4 _ _ _ rfl rfl rfl rfl _ rfl (by first | rfl | (simp only [S1.out]; rfl) | (simp only [S1.out, S2.out]; rfl) | (simp only [S3.out]; rfl) | (simp only [S1.out, S2.out, S3.out]; rfl)) (by first | exact sz51 | (rw [S1.out]; exact sz51) | (rw [S2.out]; exact sz51) | (rw [S3.out]; exact sz51)) (by first | exact ints_one _ _ | exact Fld.one _ | exact O1.out | rfl | (simp [Value.oneCell']; done)) rfl ?_); intro wn m; simp only [List.set_cons_succ, List.set_cons_zero, List.setIfInBounds_toArray, zeroFld] at m; have M := Lib.hid m; clear m)
          )
        refine ret_cct rfl ((M.out.blk 3 rfl).var Try.underlying29 rfl (by first | (rw [S2.out]; exact sz29) | (rw [S3.out]; exact sz29))) ((M.out.blk 4 rfl).var Try.underlying51 rfl sz51) ⟨?_, M.out.take 0⟩
        rw [HEF.out, HEV.out, HE1.out, if_pos rfl, if_pos rfl, HG.out, HN.out]
        rfl
end Go.Proofs.Ytlonbgomdabmmaa
namespace Go.Proofs.Ytlonbgomdabmmaa
set_option linter.unusedSimpArgs false
set_option linter.unusedVariables false
open Go.RowKit
attribute [local go_sem] cell?_mk frozen?_mk

theorem Visit.ones (x : Visit) : ∀ v ∈ x.vals, v.oneCell' = true := by
  intro v hv
  simp only [Visit.vals, List.mem_cons, List.not_mem_nil, or_false] at hv
  rcases hv with rfl | rfl | rfl <;> rfl
def markVisit (k : Int) (i : Nat) : Visit := ⟨IntKind.i8.wrap (k + 3 * i), IntKind.i16.wrap (k + 3 * i + 1), IntKind.i16.wrap (k + 3 * i + 1 + 1)⟩
def marksVisit (k : Int) (n : Nat) : List Visit := (List.range n).map (markVisit k)
def mixVisit (k : Int) (xs : List Visit) (i : Nat) : List Visit := (List.range i).map (markVisit k) ++ xs.drop i
end Go.Proofs.Ytlonbgomdabmmaa
