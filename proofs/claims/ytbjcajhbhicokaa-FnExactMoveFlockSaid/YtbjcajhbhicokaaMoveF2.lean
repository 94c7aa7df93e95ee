/- A flock that rests in another tree: the walks of both, and of the law. -/
import Derived.Test.YtbjcajhbhicokaaMoveF
namespace Go.Proofs.Ytbjcajhbhicokaa
set_option linter.unusedSimpArgs false
set_option linter.unusedVariables false
open Go.RowKit
attribute [local go_sem] cell?_mk frozen?_mk

theorem flCode_t {F : Fld} {xs : List Flock} {i : Int} (h : flCode F xs i true = 0) (p : Bool) : flCode F xs i p = if p = true then 0 else 2 := by
  obtain ⟨h1, h2, h3, _⟩ := flCode_0 h
  simp [flCode, h1, h2, h3]
theorem flCode_f {F : Fld} {xs : List Flock} {i : Int} (h : flCode F xs i true ≠ 0) (p : Bool) : flCode F xs i p = flCode F xs i true := by
  unfold flCode at *
  cases h1 : (F.valid && flocksOk F xs)
  · simp
  · cases h2 : inB i 0 (xs.length - 1)
    · simp
    · simp [h1, h2] at h
set_option maxRecDepth 100000 in
set_option maxHeartbeats 2000000 in
theorem impl_MoveFlock_any (F : Fld) (hF : F.ok) (A : Option Addr) (n : Nat) (xs : List Flock) (hx : ∀ x ∈ xs, x.ok) (hl : xs.length ≤ 1048576) (hc : xs.length ≤ n) (hn : n ≤ 9223372036854775807) (hA : A = none → n = 0) (i c : Int) (w : World) (hs : Sl w 6 A xs.length (flat Flock.vals xs)) :
    Calls Try.prog 36 #[.agg F.cells, .slice A xs.length n, .int .i64 i, .int .i64 c] w (RetRowC w 39 6 (mvRes F xs i c).length (flat Flock.vals (mvRes F xs i c)) (mvCode F xs i c)) := by
  have M := Lib.hid (Mem.start w)
  have HX := Lib.hid hx
  have HS := Lib.hid hs
  have HF := Lib.hid hF
  have S1 := Lib.hid (Fld.size hF.toLen)
  clear hx hs hF
  by_cases hd : flCode F xs i (F.has c) = 0
  · obtain ⟨h1, h2, h3, h4⟩ := flCode_0 hd
    obtain ⟨⟨c0, c1⟩, _⟩ := Fld.has_iff.1 h4
    obtain ⟨p0, p1⟩ := inB_iff.1 h3
    have HD := Lib.hid hd
    obtain ⟨k, rfl⟩ : ∃ k : Nat, c = k := ⟨c.toNat, by omega⟩
    obtain ⟨j, rfl⟩ : ∃ j : Nat, i = j := ⟨i.toNat, by omega⟩
    have hk : k < 100 := by omega
    have hj : j < xs.length := by omega
    have i0 : (0 : Int) ≤ (j : Int) := by omega
    have i1 : (j : Int) < (xs.length : Int) := by omega
    have j0 : (0 : Int) ≤ (k : Int) := by omega
    have j1 : (k : Int) < 100 := by omega
    have e1 : IntKind.i16.wrap (k : Int) = k := IntWalk.i16_in _ (by omega)
    have hxj : xs[j]? = some xs[j] := List.getElem?_eq_getElem hj
    have HMV := Lib.hid (show mvAt xs j k = xs.set j { xs[j] with tree := (k : Int) } by simp [mvAt, hxj])
    have HXJ := Lib.hid hxj
    have hln : j * 6 < (flat Flock.vals xs).length := by rw [flat_len Flock.vl]; omega
    have HL := Lib.hid hln
    have kb := HF.out.kb k
    have KC := Lib.hid (Fld.cellK HF.out.toLen hk)
    clear h1 h2 h3 h4 hd hxj hln
    by_cases hki : F.kind k = 3
    · have HK := Lib.hid hki
      have hkb : (F.kind k != 3) = false := by simp [hki]
      have HAC := Lib.hid (show mvCode F xs j k = 0 by simp [mvCode, HD.out, hki])
      clear hki
      go_enter Try.func36, Try.ntmps36
      go_wp2_with (first
        | ((with_reducible refine gate_dst (N := 4) rfl ?_); go_must (refine M.out.ev_new rfl (by first | (go_simp; done) | (go_simp; rfl)) ?_); intro g4 w4 m; simp only [List.cons_append, List.nil_append] at m; have M := Lib.hid m; clear m)
        | ((with_reducible refine gate_dst (N := 7) rfl ?_); go_must (refine M.out.ev_new rfl (by first | (go_simp; done) | (go_simp; rfl)) ?_); intro g7 w7 m; simp only [List.cons_append, List.nil_append] at m; have M := Lib.hid m; clear m)
        | ((with_reducible refine gate_dst (N := 21) rfl ?_); go_must (refine M.out.ev_ld 1 _ _ rfl rfl rfl Try.underlying2 rfl rfl (by first | assumption | rfl) ?_))
        | ((with_reducible refine gate_dst (N := 24) rfl ?_); go_must (refine M.out.ev_ld 0 _ _ rfl rfl rfl Try.underlying5 rfl rfl (by first | assumption | rfl) ?_))
        | ((with_reducible refine gate_dst (N := 30) rfl ?_); go_must (refine M.out.ev_ld 1 _ _ rfl rfl rfl Try.underlying2 rfl rfl (by first | assumption | rfl) ?_))
        | (go_at_call 85; go_must (refine (flockCode_any _ F HF.out A n xs HX.out hl (j : Int) 86 _ (F.has (k : Int)) _ (M.out.blk 0 rfl) (M.out.sl HS.out) (fun _ _ => by go_simp) (fun _ w1 m1 => mvIs_any _ _ F HF.out (k : Int) w1 ((M.out.join m1).blk 0 rfl) ((M.out.join m1).blk 1 rfl))).mono ?_); rintro e w_ ⟨rfl, N_⟩; have m := M.out.join N_; clear N_; simp only [List.cons_append, List.nil_append, List.append_nil] at m; have M := Lib.hid m; clear m; rw [HD.out]; have q1 := M.out.cell (j := 0) (v := .int .i64 (k : Int)) 1 rfl rfl; have q2 := M.out.cell 0 rfl KC.out)
        | (go_at_call 88; go_must (refine (cloneFlock_any _ n xs hl hc hA _ (M.out.sl HS.out)).mono ?_); rintro e w_ ⟨A_, c_, rfl, hc_, N_⟩; have m := M.out.join N_; clear N_; simp only [List.cons_append, List.nil_append, List.append_nil] at m; have M := Lib.hid m; clear m; obtain ⟨g_, cap_, he_, _⟩ := M.out.row_form 2 rfl (by omega); obtain ⟨rfl, rfl⟩ : A_ = some ⟨g_, 0, none⟩ ∧ c_ = cap_ := (by injection he_ with e1 _ e2; exact ⟨e1, e2⟩); clear he_; have q1 := M.out.cell (j := 0) (v := .int .i64 (k : Int)) 1 rfl rfl)
        | ((with_reducible refine gate_store (x := .tmp 33) rfl ?_); go_must (refine M.out.ev_rput1 2 _ _ _ rfl rfl rfl rfl (.int .i16 (k : Int)) rfl (by have := HL.out; omega) sz24 rfl rfl ?_); intro wn m; simp only [List.set_cons_succ, List.set_cons_zero] at m; have M := Lib.hid m; clear m)
        )
      go_ret2
      have m := M.out.only [2] (K := [_]) rfl (by decide)
      have hf := flat_put Flock.vl (by decide : 0 < 6) (v := .int .i16 (k : Int)) xs j xs[j] { xs[j] with tree := (k : Int) } HXJ.out rfl
      rw [Nat.add_zero] at hf
      rw [hf] at m
      rw [mvRes, HAC.out, if_pos rfl, Int.toNat_natCast, HMV.out, List.length_set]
      exact ⟨_, _, rfl, by assumption, m⟩
    · have HK := Lib.hid hki
      have hkb : (F.kind k != 3) = true := by simp [hki]
      have HAC := Lib.hid (show mvCode F xs j k = 4 by simp [mvCode, HD.out, hki])
      clear hki
      go_enter Try.func36, Try.ntmps36
      go_wp2_with (first
        | ((with_reducible refine gate_dst (N := 4) rfl ?_); go_must (refine M.out.ev_new rfl (by first | (go_simp; done) | (go_simp; rfl)) ?_); intro g4 w4 m; simp only [List.cons_append, List.nil_append] at m; have M := Lib.hid m; clear m)
        | ((with_reducible refine gate_dst (N := 7) rfl ?_); go_must (refine M.out.ev_new rfl (by first | (go_simp; done) | (go_simp; rfl)) ?_); intro g7 w7 m; simp only [List.cons_append, List.nil_append] at m; have M := Lib.hid m; clear m)
        | ((with_reducible refine gate_dst (N := 21) rfl ?_); go_must (refine M.out.ev_ld 1 _ _ rfl rfl rfl Try.underlying2 rfl rfl (by first | assumption | rfl) ?_))
        | ((with_reducible refine gate_dst (N := 24) rfl ?_); go_must (refine M.out.ev_ld 0 _ _ rfl rfl rfl Try.underlying5 rfl rfl (by first | assumption | rfl) ?_))
        | ((with_reducible refine gate_dst (N := 30) rfl ?_); go_must (refine M.out.ev_ld 1 _ _ rfl rfl rfl Try.underlying2 rfl rfl (by first | assumption | rfl) ?_))
        | (go_at_call 85; go_must (refine (flockCode_any _ F HF.out A n xs HX.out hl (j : Int) 86 _ (F.has (k : Int)) _ (M.out.blk 0 rfl) (M.out.sl HS.out) (fun _ _ => by go_simp) (fun _ w1 m1 => mvIs_any _ _ F HF.out (k : Int) w1 ((M.out.join m1).blk 0 rfl) ((M.out.join m1).blk 1 rfl))).mono ?_); rintro e w_ ⟨rfl, N_⟩; have m := M.out.join N_; clear N_; simp only [List.cons_append, List.nil_append, List.append_nil] at m; have M := Lib.hid m; clear m; rw [HD.out]; have q1 := M.out.cell (j := 0) (v := .int .i64 (k : Int)) 1 rfl rfl; have q2 := M.out.cell 0 rfl KC.out)
        )
      go_ret2
      have m := (M.out.take 0).nilrow 39 6
      rw [mvRes, HAC.out]
      exact ⟨none, 0, rfl, Nat.le_refl _, m⟩
  · have HD := Lib.hid hd
    have hdd : (flCode F xs i (F.has c) != 0) = true := by simp [hd]
    have HAC := Lib.hid (show mvCode F xs i c = flCode F xs i (F.has c) by rw [mvCode, if_pos hd])
    clear hd
    go_enter Try.func36, Try.ntmps36
    go_wp2_with (first
      | ((with_reducible refine gate_dst (N := 4) rfl ?_); go_must (refine M.out.ev_new rfl (by first | (go_simp; done) | (go_simp; rfl)) ?_); intro g4 w4 m; simp only [List.cons_append, List.nil_append] at m; have M := Lib.hid m; clear m)
      | ((with_reducible refine gate_dst (N := 7) rfl ?_); go_must (refine M.out.ev_new rfl (by first | (go_simp; done) | (go_simp; rfl)) ?_); intro g7 w7 m; simp only [List.cons_append, List.nil_append] at m; have M := Lib.hid m; clear m)
      | ((with_reducible refine gate_dst (N := 21) rfl ?_); go_must (refine M.out.ev_ld 1 _ _ rfl rfl rfl Try.underlying2 rfl rfl (by first | assumption | rfl) ?_))
      | ((with_reducible refine gate_dst (N := 24) rfl ?_); go_must (refine M.out.ev_ld 0 _ _ rfl rfl rfl Try.underlying5 rfl rfl (by first | assumption | rfl) ?_))
      | ((with_reducible refine gate_dst (N := 30) rfl ?_); go_must (refine M.out.ev_ld 1 _ _ rfl rfl rfl Try.underlying2 rfl rfl (by first | assumption | rfl) ?_))
      | (go_at_call 85; go_must (refine (flockCode_any _ F HF.out A n xs HX.out hl i 86 _ (F.has c) _ (M.out.blk 0 rfl) (M.out.sl HS.out) (fun _ _ => by go_simp) (fun _ w1 m1 => mvIs_any _ _ F HF.out c w1 ((M.out.join m1).blk 0 rfl) ((M.out.join m1).blk 1 rfl))).mono ?_); rintro e w_ ⟨rfl, N_⟩; have m := M.out.join N_; clear N_; simp only [List.cons_append, List.nil_append, List.append_nil] at m; have M := Lib.hid m; clear m)
      )
    go_ret2
    have m := (M.out.take 0).nilrow 39 6
    rw [mvRes, HAC.out, if_neg HD.out]
    exact ⟨none, 0, rfl, Nat.le_refl _, m⟩
set_option maxRecDepth 100000 in
set_option maxHeartbeats 2000000 in
theorem spec_MoveFlock_any (F : Fld) (hF : F.ok) (A : Option Addr) (n : Nat) (xs : List Flock) (hx : ∀ x ∈ xs, x.ok) (hl : xs.length ≤ 1048576) (hc : xs.length ≤ n) (hn : n ≤ 9223372036854775807) (hA : A = none → n = 0) (i c : Int) (w : World) (hs : Sl w 6 A xs.length (flat Flock.vals xs)) :
    Calls Try.prog 34 #[.agg F.cells, .slice A xs.length n, .int .i64 i, .int .i64 c] w (RetRowC w 39 6 (mvRes F xs i c).length (flat Flock.vals (mvRes F xs i c)) (mvCode F xs i c)) := by
  have M := Lib.hid (Mem.start w)
  have HX := Lib.hid hx
  have HS := Lib.hid hs
  have HF := Lib.hid hF
  have S1 := Lib.hid (Fld.size hF.toLen)
  clear hx hs hF
  by_cases hd : flCode F xs i true = 0
  · obtain ⟨h1, h2, h3, h4⟩ := flCode_0 hd
    obtain ⟨p0, p1⟩ := inB_iff.1 h3
    have HD := Lib.hid hd
    obtain ⟨j, rfl⟩ : ∃ j : Nat, i = j := ⟨i.toNat, by omega⟩
    have hj : j < xs.length := by omega
    have i0 : (0 : Int) ≤ (j : Int) := by omega
    have i1 : (j : Int) < (xs.length : Int) := by omega
    have FT := Lib.hid (flCode_t hd (F.has c))
    clear h1 h2 h3 h4 hd
    cases hh : F.has c
    · have HH := Lib.hid hh
      have HAC := Lib.hid (show mvCode F xs j c = 2 by rw [mvCode, FT.out, hh]; simp)
      have HTR := Lib.hid (show F.tree c = false by rw [Fld.tree, hh]; rfl)
      clear hh
      go_enter Try.func34, Try.ntmps34
      go_wp2_with (first
        | ((with_reducible refine gate_dst (N := 4) rfl ?_); go_must (refine M.out.ev_new rfl (by first | (go_simp; done) | (go_simp; rfl)) ?_); intro g4 w4 m; simp only [List.cons_append, List.nil_append] at m; have M := Lib.hid m; clear m)
        | (go_at_call 82; go_must (refine (l02Index_any _ F HF.out A n xs HX.out hl (j : Int) _ (M.out.blk 0 rfl) (M.out.sl HS.out)).mono ?_); rintro e w_ ⟨rfl, rfl⟩; rw [HD.out])
        | (go_at_call 83; go_must (refine (l01Is_any _ F HF.out c _ (M.out.blk 0 rfl)).mono ?_); rintro e w_ ⟨rfl, rfl⟩; rw [HH.out])
        | (go_at_call 84; go_must (refine (l02Tree_any _ F HF.out c _ (M.out.blk 0 rfl)).mono ?_); rintro e w_ ⟨rfl, rfl⟩; rw [HTR.out])
        | ((with_reducible refine gate_dst (N := 31) rfl ?_); go_must (refine M.out.ev_bs0 elem_Flock rfl rfl ?_); intro g31 w31 m; simp only [List.cons_append, List.nil_append] at m; have M := Lib.hid m; clear m)
        )
      go_ret2
      have m := M.out.only [1] (K := [_]) rfl (by decide)
      rw [mvRes, HAC.out]
      exact ⟨_, 0, rfl, Nat.le_refl _, m⟩
    · obtain ⟨⟨c0, c1⟩, _⟩ := Fld.has_iff.1 hh
      obtain ⟨k, rfl⟩ : ∃ k : Nat, c = k := ⟨c.toNat, by omega⟩
      have e1 : IntKind.i16.wrap (k : Int) = k := IntWalk.i16_in _ (by omega)
      have hxj : xs[j]? = some xs[j] := List.getElem?_eq_getElem hj
      have HMV := Lib.hid (show mvAt xs j k = xs.set j { xs[j] with tree := (k : Int) } by simp [mvAt, hxj])
      have HXJ := Lib.hid hxj
      have hln : j * 6 < (flat Flock.vals xs).length := by rw [flat_len Flock.vl]; omega
      have HL := Lib.hid hln
      have HH := Lib.hid hh
      have hft := FT.out
      rw [hh] at hft
      have HFT := Lib.hid hft
      have HTE := Lib.hid (show F.tree (k : Int) = (F.kind k == 3) by rw [Fld.tree, hh]; simp)
      clear hh hxj hln hft
      by_cases hki : F.kind k = 3
      · have HTR := Lib.hid (show F.tree (k : Int) = true by rw [HTE.out, hki]; rfl)
        have HAC := Lib.hid (show mvCode F xs j k = 0 by rw [mvCode, HH.out, HFT.out]; simp [hki])
        clear hki
        go_enter Try.func34, Try.ntmps34
        go_wp2_with (first
          | ((with_reducible refine gate_dst (N := 4) rfl ?_); go_must (refine M.out.ev_new rfl (by first | (go_simp; done) | (go_simp; rfl)) ?_); intro g4 w4 m; simp only [List.cons_append, List.nil_append] at m; have M := Lib.hid m; clear m)
          | (go_at_call 82; go_must (refine (l02Index_any _ F HF.out A n xs HX.out hl (j : Int) _ (M.out.blk 0 rfl) (M.out.sl HS.out)).mono ?_); rintro e w_ ⟨rfl, rfl⟩; rw [HD.out])
          | (go_at_call 83; go_must (refine (l01Is_any _ F HF.out (k : Int) _ (M.out.blk 0 rfl)).mono ?_); rintro e w_ ⟨rfl, rfl⟩; rw [HH.out])
          | (go_at_call 84; go_must (refine (l02Tree_any _ F HF.out (k : Int) _ (M.out.blk 0 rfl)).mono ?_); rintro e w_ ⟨rfl, rfl⟩; rw [HTR.out])
          | ((with_reducible refine gate_dst (N := 33) rfl ?_); go_must (refine M.out.ev_bs0 elem_Flock rfl rfl ?_); intro g33 w33 m; simp only [List.cons_append, List.nil_append] at m; have M := Lib.hid m; clear m)
          | ((with_reducible refine gate_dst (N := 35) rfl ?_); go_must (refine M.out.ev_appends 1 elem_Flock rfl _ _ rfl rfl rfl rfl (M.out.sl HS.out) hA hc (flat_one Flock.ones xs) (by omega) (by decide) ?_); intro v35 w35 m; simp only [List.set_cons_succ, List.set_cons_zero, List.nil_append, Nat.zero_add] at m; have M := Lib.hid m; clear m; obtain ⟨g_, cap_, rfl, hc_⟩ := M.out.row_form 1 rfl (by omega))
          | ((with_reducible refine gate_store (x := .tmp 41) rfl ?_); go_must (refine M.out.ev_rput1 1 _ _ _ rfl rfl rfl rfl (.int .i16 (k : Int)) rfl (by have := HL.out; omega) sz24 rfl rfl ?_); intro wn m; simp only [List.set_cons_succ, List.set_cons_zero] at m; have M := Lib.hid m; clear m)
          )
        go_ret2
        have m := M.out.only [1] (K := [_]) rfl (by decide)
        have hf := flat_put Flock.vl (by decide : 0 < 6) (v := .int .i16 (k : Int)) xs j xs[j] { xs[j] with tree := (k : Int) } HXJ.out rfl
        rw [Nat.add_zero] at hf
        rw [hf] at m
        rw [mvRes, HAC.out, if_pos rfl, Int.toNat_natCast, HMV.out, List.length_set]
        exact ⟨_, _, rfl, by first | assumption | exact hc_.1 | omega, m⟩
      · have HTR := Lib.hid (show F.tree (k : Int) = false by rw [HTE.out]; simp [hki])
        have HAC := Lib.hid (show mvCode F xs j k = 4 by rw [mvCode, HH.out, HFT.out]; simp [hki])
        clear hki
        go_enter Try.func34, Try.ntmps34
        go_wp2_with (first
          | ((with_reducible refine gate_dst (N := 4) rfl ?_); go_must (refine M.out.ev_new rfl (by first | (go_simp; done) | (go_simp; rfl)) ?_); intro g4 w4 m; simp only [List.cons_append, List.nil_append] at m; have M := Lib.hid m; clear m)
          | (go_at_call 82; go_must (refine (l02Index_any _ F HF.out A n xs HX.out hl (j : Int) _ (M.out.blk 0 rfl) (M.out.sl HS.out)).mono ?_); rintro e w_ ⟨rfl, rfl⟩; rw [HD.out])
          | (go_at_call 83; go_must (refine (l01Is_any _ F HF.out (k : Int) _ (M.out.blk 0 rfl)).mono ?_); rintro e w_ ⟨rfl, rfl⟩; rw [HH.out])
          | (go_at_call 84; go_must (refine (l02Tree_any _ F HF.out (k : Int) _ (M.out.blk 0 rfl)).mono ?_); rintro e w_ ⟨rfl, rfl⟩; rw [HTR.out])
          | ((with_reducible refine gate_dst (N := 31) rfl ?_); go_must (refine M.out.ev_bs0 elem_Flock rfl rfl ?_); intro g31 w31 m; simp only [List.cons_append, List.nil_append] at m; have M := Lib.hid m; clear m)
          )
        go_ret2
        have m := M.out.only [1] (K := [_]) rfl (by decide)
        rw [mvRes, HAC.out]
        exact ⟨_, 0, rfl, Nat.le_refl _, m⟩
  · have HD := Lib.hid hd
    have hdd : (flCode F xs i true == 0) = false := by simp [hd]
    have hde : (flCode F xs i true != 0) = true := by simp [hd]
    have HFF := Lib.hid (flCode_f hd (F.has c))
    have HAC := Lib.hid (show mvCode F xs i c = flCode F xs i true by rw [mvCode, HFF.out, if_pos hd])
    clear hd
    go_enter Try.func34, Try.ntmps34
    go_wp2_with (first
      | ((with_reducible refine gate_dst (N := 4) rfl ?_); go_must (refine M.out.ev_new rfl (by first | (go_simp; done) | (go_simp; rfl)) ?_); intro g4 w4 m; simp only [List.cons_append, List.nil_append] at m; have M := Lib.hid m; clear m)
      | (go_at_call 82; go_must (refine (l02Index_any _ F HF.out A n xs HX.out hl i _ (M.out.blk 0 rfl) (M.out.sl HS.out)).mono ?_); rintro e w_ ⟨rfl, rfl⟩)
      | ((with_reducible refine gate_dst (N := 31) rfl ?_); go_must (refine M.out.ev_bs0 elem_Flock rfl rfl ?_); intro g31 w31 m; simp only [List.cons_append, List.nil_append] at m; have M := Lib.hid m; clear m)
      )
    go_ret2
    have m := M.out.only [1] (K := [_]) rfl (by decide)
    rw [mvRes, HAC.out, if_neg HD.out]
    exact ⟨_, 0, rfl, Nat.le_refl _, m⟩
end Go.Proofs.Ytbjcajhbhicokaa
