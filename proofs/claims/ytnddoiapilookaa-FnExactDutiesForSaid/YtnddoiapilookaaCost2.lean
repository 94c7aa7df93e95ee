/- Costs of nets: the walks of both. -/
import Derived.Test.YtnddoiapilookaaCost
namespace Go.Proofs.Ytnddoiapilookaa
set_option linter.unusedSimpArgs false
set_option linter.unusedVariables false
open Go.RowKit
attribute [local go_sem] cell?_mk frozen?_mk
--ONES exact Net.one _ | exact Prices.one _
def prCode (F : Fld) (p : Prices) (xs : List Net) (c : Cs) : Int := if p.good = true then ntCode F xs c else 1
theorem prCode_bad {F : Fld} {p : Prices} {xs : List Net} {c : Cs} (h : p.good = false) : prCode F p xs c = 1 := by
  rw [prCode, h]
  rfl
theorem prCode_good {F : Fld} {p : Prices} {xs : List Net} {c : Cs} (h : p.good = true) : prCode F p xs c = ntCode F xs c := by
  rw [prCode, h, if_pos rfl]
def costRes (F : Fld) (p : Prices) (xs : List Net) : Int := if prCode F p xs Cs.z = 0 then costs p xs else 0
set_option maxRecDepth 100000 in
set_option maxHeartbeats 4000000 in
theorem pricesCode_any (g : Nat) {t : TypeId} (F : Fld) (hF : F.ok) (p : Prices) (hp : p.ok) (A : Option Addr) (n : Nat) (xs : List Net) (hx : ∀ x ∈ xs, x.ok) (hl : xs.length ≤ 1048576) (c : Cs) (hc : c.ok) (w : World) (hb : Blk w g t F.cells) (hs : Sl w 4 A xs.length (flat Net.vals xs)) :
    Calls Try.prog 74 #[.pointer (some ⟨g, 0, none⟩), .agg p.vals.toArray, .slice A xs.length n, .agg c.cells] w fun e w' => e = .returned (.int .i64 (prCode F p xs c)) ∧ Mem w w' [] := by
  have M := Lib.hid (Mem.start w)
  have HX := Lib.hid hx
  have HS := Lib.hid hs
  have HB := Lib.hid hb
  have HF := Lib.hid hF
  clear hx hs hb hF
  cases hg : p.good
  · have HG := Lib.hid hg
    clear hg
    go_enter Try.func74, Try.ntmps74
    go_wp2_with (first
      | ((with_reducible refine gate_dst (N := 5) rfl ?_); go_must (refine M.out.ev_new rfl (by first | (go_simp; done) | (go_simp; rfl)) ?_); intro g5 w5 m; simp only [List.cons_append, List.nil_append] at m; have M := Lib.hid m; clear m)
      | ((with_reducible refine gate_dst (N := 7) rfl ?_); go_must (refine M.out.ev_new rfl (by first | (go_simp; done) | (go_simp; rfl)) ?_); intro g7 w7 m; simp only [List.cons_append, List.nil_append] at m; have M := Lib.hid m; clear m)
      | ((with_reducible refine gate_dst (N := 9) rfl ?_); go_must (refine M.out.ev_ldw 0 _ _ rfl rfl rfl Try.underlying42 rfl (by first | exact sz42 | (rw [S1.out]; exact sz42) | (rw [S2.out]; exact sz42) | (rw [S3.out]; exact sz42)) rfl ?_))
      | ((with_reducible refine gate_dst (N := 14) rfl ?_); go_must (refine M.out.ev_ldw 1 _ _ rfl rfl rfl Try.underlying51 rfl (by first | exact sz51 | (rw [S1.out]; exact sz51) | (rw [S2.out]; exact sz51) | (rw [S3.out]; exact sz51)) rfl ?_))
      | (go_at_call 109; go_must (refine (ValidPrices_any p hp _).mono ?_); rintro e w_ ⟨rfl, N_⟩; have m := M.out.join N_; clear N_; simp only [List.cons_append, List.nil_append, List.append_nil] at m; have M := Lib.hid m; clear m; rw [HG.out])
      )
    go_ret
    exact ⟨ret_int (prCode_bad HG.out).symm, M.out.take 0⟩
  · have HG := Lib.hid hg
    clear hg
    go_enter Try.func74, Try.ntmps74
    go_wp2_with (first
      | ((with_reducible refine gate_dst (N := 5) rfl ?_); go_must (refine M.out.ev_new rfl (by first | (go_simp; done) | (go_simp; rfl)) ?_); intro g5 w5 m; simp only [List.cons_append, List.nil_append] at m; have M := Lib.hid m; clear m)
      | ((with_reducible refine gate_dst (N := 7) rfl ?_); go_must (refine M.out.ev_new rfl (by first | (go_simp; done) | (go_simp; rfl)) ?_); intro g7 w7 m; simp only [List.cons_append, List.nil_append] at m; have M := Lib.hid m; clear m)
      | ((with_reducible refine gate_dst (N := 9) rfl ?_); go_must (refine M.out.ev_ldw 0 _ _ rfl rfl rfl Try.underlying42 rfl (by first | exact sz42 | (rw [S1.out]; exact sz42) | (rw [S2.out]; exact sz42) | (rw [S3.out]; exact sz42)) rfl ?_))
      | ((with_reducible refine gate_dst (N := 14) rfl ?_); go_must (refine M.out.ev_ldw 1 _ _ rfl rfl rfl Try.underlying51 rfl (by first | exact sz51 | (rw [S1.out]; exact sz51) | (rw [S2.out]; exact sz51) | (rw [S3.out]; exact sz51)) rfl ?_))
      | (go_at_call 109; go_must (refine (ValidPrices_any p hp _).mono ?_); rintro e w_ ⟨rfl, N_⟩; have m := M.out.join N_; clear N_; simp only [List.cons_append, List.nil_append, List.append_nil] at m; have M := Lib.hid m; clear m; rw [HG.out])
      | (go_at_call 66; go_must (refine (netsCode_any g F HF.out A n xs HX.out hl c hc _ (M.out.arg HB.out) (M.out.sl HS.out)).mono ?_); rintro e w_ ⟨rfl, N_⟩; have m := M.out.join N_; clear N_; simp only [List.cons_append, List.nil_append, List.append_nil] at m; have M := Lib.hid m; clear m)
      )
    go_ret
    exact ⟨ret_int (prCode_good HG.out).symm, M.out.take 0⟩
set_option maxRecDepth 100000 in
set_option maxHeartbeats 4000000 in
theorem impl_CostOfNets_any (F : Fld) (hF : F.ok) (p : Prices) (hp : p.ok) (A : Option Addr) (n : Nat) (xs : List Net) (hx : ∀ x ∈ xs, x.ok) (hl : xs.length ≤ 1048576) (w : World) (hs : Sl w 4 A xs.length (flat Net.vals xs)) :
    Calls Try.prog 36 #[.agg F.cells, .agg p.vals.toArray, .slice A xs.length n] w fun e w' => e = .returned (.tuple #[.int .i64 (costRes F p xs), .int .i64 (prCode F p xs Cs.z)]) ∧ Mem w w' [] := by
  have M := Lib.hid (Mem.start w)
  have HX := Lib.hid hx
  have HS := Lib.hid hs
  have HF := Lib.hid hF
  have S1 := Lib.hid (Fld.size hF.toLen)
  clear hx hs hF
  by_cases hk : prCode F p xs Cs.z = 0
  · have HR := Lib.hid (show costRes F p xs = costs p xs by rw [costRes, if_pos hk])
    have hg : p.good = true := by
      cases h : p.good
      · rw [prCode_bad h] at hk; cases hk
      · rfl
    have HN := Lib.hid (show ntCode F xs Cs.z = 0 by rw [← prCode_good hg]; exact hk)
    have hok := netsOk_iff.1 (ntCode_0 HN.out).1
    have HPL := Lib.hid (show ∀ x ∈ xs, x.plain = true from fun x hx => Net.fits_plain (hok.2 x hx))
    have HK := Lib.hid hk
    have HG := Lib.hid hg
    clear hk hok hg
    go_enter Try.func36, Try.ntmps36
    go_wp2_with (first
      | ((with_reducible refine gate_dst (N := 3) rfl ?_); go_must (refine M.out.ev_new rfl (by first | (go_simp; done) | (go_simp; rfl)) ?_); intro g3 w3 m; simp only [List.cons_append, List.nil_append] at m; have M := Lib.hid m; clear m)
      | ((with_reducible refine gate_dst (N := 4) rfl ?_); go_must (refine M.out.ev_new rfl (by first | (go_simp; done) | (go_simp; rfl)) ?_); intro g4 w4 m; simp only [List.cons_append, List.nil_append] at m; have M := Lib.hid m; clear m)
      | ((with_reducible refine gate_dst (N := 9) rfl ?_); go_must (refine M.out.ev_ldw 1 _ _ rfl rfl rfl Try.underlying42 rfl (by first | exact sz42 | (rw [S1.out]; exact sz42) | (rw [S2.out]; exact sz42) | (rw [S3.out]; exact sz42)) rfl ?_))
      | ((with_reducible refine gate_dst (N := 16) rfl ?_); go_must (refine M.out.ev_ldw 1 _ _ rfl rfl rfl Try.underlying42 rfl (by first | exact sz42 | (rw [S1.out]; exact sz42) | (rw [S2.out]; exact sz42) | (rw [S3.out]; exact sz42)) rfl ?_))
      | (go_at_call 74; go_must (refine (pricesCode_any g3 F HF.out p hp A n xs HX.out hl Cs.z Cs.z_ok _ (M.out.blk 0 rfl) (M.out.sl HS.out)).mono ?_); rintro e w_ ⟨rfl, N_⟩; have m := M.out.join N_; clear N_; simp only [List.cons_append, List.nil_append, List.append_nil] at m; have M := Lib.hid m; clear m; rw [HK.out])
      | (go_at_call 75; go_must (refine (costP_any p HG.out A n xs HPL.out hl _ (M.out.sl HS.out)).mono ?_); rintro e w_ ⟨rfl, N_⟩; have m := M.out.join N_; clear N_; simp only [List.cons_append, List.nil_append, List.append_nil] at m; have M := Lib.hid m; clear m)
      )
    go_ret2
    exact ⟨by rw [HR.out, HK.out]; first | rfl | skip, M.out.take 0⟩
  · have HR := Lib.hid (show costRes F p xs = 0 by rw [costRes, if_neg hk])
    obtain ⟨d, hd⟩ : ∃ d, d = prCode F p xs Cs.z := ⟨_, rfl⟩
    have HD := Lib.hid hd
    rw [← hd] at hk
    clear hd
    go_enter Try.func36, Try.ntmps36
    go_wp2_with (first
      | ((with_reducible refine gate_dst (N := 3) rfl ?_); go_must (refine M.out.ev_new rfl (by first | (go_simp; done) | (go_simp; rfl)) ?_); intro g3 w3 m; simp only [List.cons_append, List.nil_append] at m; have M := Lib.hid m; clear m)
      | ((with_reducible refine gate_dst (N := 4) rfl ?_); go_must (refine M.out.ev_new rfl (by first | (go_simp; done) | (go_simp; rfl)) ?_); intro g4 w4 m; simp only [List.cons_append, List.nil_append] at m; have M := Lib.hid m; clear m)
      | ((with_reducible refine gate_dst (N := 9) rfl ?_); go_must (refine M.out.ev_ldw 1 _ _ rfl rfl rfl Try.underlying42 rfl (by first | exact sz42 | (rw [S1.out]; exact sz42) | (rw [S2.out]; exact sz42) | (rw [S3.out]; exact sz42)) rfl ?_))
      | ((with_reducible refine gate_dst (N := 16) rfl ?_); go_must (refine M.out.ev_ldw 1 _ _ rfl rfl rfl Try.underlying42 rfl (by first | exact sz42 | (rw [S1.out]; exact sz42) | (rw [S2.out]; exact sz42) | (rw [S3.out]; exact sz42)) rfl ?_))
      | (go_at_call 74; go_must (refine (pricesCode_any g3 F HF.out p hp A n xs HX.out hl Cs.z Cs.z_ok _ (M.out.blk 0 rfl) (M.out.sl HS.out)).mono ?_); rintro e w_ ⟨rfl, N_⟩; have m := M.out.join N_; clear N_; simp only [List.cons_append, List.nil_append, List.append_nil] at m; have M := Lib.hid m; clear m; rw [← HD.out])
      )
    go_ret2
    exact ⟨by rw [HR.out, ← HD.out]; first | rfl | skip, M.out.take 0⟩
set_option maxRecDepth 100000 in
set_option maxHeartbeats 4000000 in
theorem spec_CostOfNets_any (F : Fld) (hF : F.ok) (p : Prices) (hp : p.ok) (A : Option Addr) (n : Nat) (xs : List Net) (hx : ∀ x ∈ xs, x.ok) (hl : xs.length ≤ 1048576) (w : World) (hs : Sl w 4 A xs.length (flat Net.vals xs)) :
    Calls Try.prog 35 #[.agg F.cells, .agg p.vals.toArray, .slice A xs.length n] w fun e w' => e = .returned (.tuple #[.int .i64 (costRes F p xs), .int .i64 (prCode F p xs Cs.z)]) ∧ Mem w w' [] := by
  have M := Lib.hid (Mem.start w)
  have HX := Lib.hid hx
  have HS := Lib.hid hs
  have HF := Lib.hid hF
  have S1 := Lib.hid (Fld.size hF.toLen)
  clear hx hs hF
  by_cases hk : prCode F p xs Cs.z = 0
  · have HR := Lib.hid (show costRes F p xs = costs p xs by rw [costRes, if_pos hk])
    have hg : p.good = true := by
      cases h : p.good
      · rw [prCode_bad h] at hk; cases hk
      · rfl
    have HN := Lib.hid (show ntCode F xs Cs.z = 0 by rw [← prCode_good hg]; exact hk)
    have hok := netsOk_iff.1 (ntCode_0 HN.out).1
    have HPL := Lib.hid (show ∀ x ∈ xs, x.plain = true from fun x hx => Net.fits_plain (hok.2 x hx))
    have HK := Lib.hid hk
    have HG := Lib.hid hg
    clear hk hok hg
    go_enter Try.func35, Try.ntmps35
    go_wp2_with (first
      | ((with_reducible refine gate_dst (N := 3) rfl ?_); go_must (refine M.out.ev_new rfl (by first | (go_simp; done) | (go_simp; rfl)) ?_); intro g3 w3 m; simp only [List.cons_append, List.nil_append] at m; have M := Lib.hid m; clear m)
      | ((with_reducible refine gate_dst (N := 4) rfl ?_); go_must (refine M.out.ev_new rfl (by first | (go_simp; done) | (go_simp; rfl)) ?_); intro g4 w4 m; simp only [List.cons_append, List.nil_append] at m; have M := Lib.hid m; clear m)
      | ((with_reducible refine gate_dst (N := 11) rfl ?_); go_must (refine M.out.ev_ldw 1 _ _ rfl rfl rfl Try.underlying42 rfl (by first | exact sz42 | (rw [S1.out]; exact sz42) | (rw [S2.out]; exact sz42) | (rw [S3.out]; exact sz42)) rfl ?_))
      | ((with_reducible refine gate_dst (N := 17) rfl ?_); go_must (refine M.out.ev_ldw 1 _ _ rfl rfl rfl Try.underlying42 rfl (by first | exact sz42 | (rw [S1.out]; exact sz42) | (rw [S2.out]; exact sz42) | (rw [S3.out]; exact sz42)) rfl ?_))
      | (go_at_call 64; go_must (refine (l04Nets_any g3 F HF.out A n xs HX.out hl _ (M.out.blk 0 rfl) (M.out.sl HS.out)).mono ?_); rintro e w_ ⟨rfl, N_⟩; have m := M.out.join N_; clear N_; simp only [List.cons_append, List.nil_append, List.append_nil] at m; have M := Lib.hid m; clear m; rw [HN.out])
      | (go_at_call 62; go_must (refine (l04Prices_any p hp _).mono ?_); rintro e w_ ⟨rfl, N_⟩; have m := M.out.join N_; clear N_; simp only [List.cons_append, List.nil_append, List.append_nil] at m; have M := Lib.hid m; clear m; rw [HG.out])
      | (go_at_call 73; go_must (refine (l04Sum_any p HG.out A n xs HPL.out hl _ (M.out.sl HS.out)).mono ?_); rintro e w_ ⟨rfl, N_⟩; have m := M.out.join N_; clear N_; simp only [List.cons_append, List.nil_append, List.append_nil] at m; have M := Lib.hid m; clear m)
      )
    go_ret2
    exact ⟨by rw [HR.out, HK.out]; first | rfl | skip, M.out.take 0⟩
  · have HR := Lib.hid (show costRes F p xs = 0 by rw [costRes, if_neg hk])
    cases hg : p.good
    · have HG := Lib.hid hg
      obtain ⟨d, hd⟩ : ∃ d, d = ntCode F xs Cs.z := ⟨_, rfl⟩
      have HD := Lib.hid hd
      clear hd hk hg
      go_enter Try.func35, Try.ntmps35
      go_wp2_with (first
        | ((with_reducible refine gate_dst (N := 3) rfl ?_); go_must (refine M.out.ev_new rfl (by first | (go_simp; done) | (go_simp; rfl)) ?_); intro g3 w3 m; simp only [List.cons_append, List.nil_append] at m; have M := Lib.hid m; clear m)
        | ((with_reducible refine gate_dst (N := 4) rfl ?_); go_must (refine M.out.ev_new rfl (by first | (go_simp; done) | (go_simp; rfl)) ?_); intro g4 w4 m; simp only [List.cons_append, List.nil_append] at m; have M := Lib.hid m; clear m)
        | ((with_reducible refine gate_dst (N := 11) rfl ?_); go_must (refine M.out.ev_ldw 1 _ _ rfl rfl rfl Try.underlying42 rfl (by first | exact sz42 | (rw [S1.out]; exact sz42) | (rw [S2.out]; exact sz42) | (rw [S3.out]; exact sz42)) rfl ?_))
        | ((with_reducible refine gate_dst (N := 17) rfl ?_); go_must (refine M.out.ev_ldw 1 _ _ rfl rfl rfl Try.underlying42 rfl (by first | exact sz42 | (rw [S1.out]; exact sz42) | (rw [S2.out]; exact sz42) | (rw [S3.out]; exact sz42)) rfl ?_))
        | (go_at_call 64; go_must (refine (l04Nets_any g3 F HF.out A n xs HX.out hl _ (M.out.blk 0 rfl) (M.out.sl HS.out)).mono ?_); rintro e w_ ⟨rfl, N_⟩; have m := M.out.join N_; clear N_; simp only [List.cons_append, List.nil_append, List.append_nil] at m; have M := Lib.hid m; clear m; rw [← HD.out])
        | (go_at_call 62; go_must (refine (l04Prices_any p hp _).mono ?_); rintro e w_ ⟨rfl, N_⟩; have m := M.out.join N_; clear N_; simp only [List.cons_append, List.nil_append, List.append_nil] at m; have M := Lib.hid m; clear m; rw [HG.out])
        )
      go_ret2
      exact ⟨by rw [HR.out, prCode_bad HG.out]; first | rfl | skip, M.out.take 0⟩
    · have HG := Lib.hid hg
      obtain ⟨d, hd⟩ : ∃ d, d = ntCode F xs Cs.z := ⟨_, rfl⟩
      have HD := Lib.hid hd
      rw [prCode_good hg, ← hd] at hk
      clear hd hg
      go_enter Try.func35, Try.ntmps35
      go_wp2_with (first
        | ((with_reducible refine gate_dst (N := 3) rfl ?_); go_must (refine M.out.ev_new rfl (by first | (go_simp; done) | (go_simp; rfl)) ?_); intro g3 w3 m; simp only [List.cons_append, List.nil_append] at m; have M := Lib.hid m; clear m)
        | ((with_reducible refine gate_dst (N := 4) rfl ?_); go_must (refine M.out.ev_new rfl (by first | (go_simp; done) | (go_simp; rfl)) ?_); intro g4 w4 m; simp only [List.cons_append, List.nil_append] at m; have M := Lib.hid m; clear m)
        | ((with_reducible refine gate_dst (N := 11) rfl ?_); go_must (refine M.out.ev_ldw 1 _ _ rfl rfl rfl Try.underlying42 rfl (by first | exact sz42 | (rw [S1.out]; exact sz42) | (rw [S2.out]; exact sz42) | (rw [S3.out]; exact sz42)) rfl ?_))
        | ((with_reducible refine gate_dst (N := 17) rfl ?_); go_must (refine M.out.ev_ldw 1 _ _ rfl rfl rfl Try.underlying42 rfl (by first | exact sz42 | (rw [S1.out]; exact sz42) | (rw [S2.out]; exact sz42) | (rw [S3.out]; exact sz42)) rfl ?_))
        | (go_at_call 64; go_must (refine (l04Nets_any g3 F HF.out A n xs HX.out hl _ (M.out.blk 0 rfl) (M.out.sl HS.out)).mono ?_); rintro e w_ ⟨rfl, N_⟩; have m := M.out.join N_; clear N_; simp only [List.cons_append, List.nil_append, List.append_nil] at m; have M := Lib.hid m; clear m; rw [← HD.out])
        | (go_at_call 62; go_must (refine (l04Prices_any p hp _).mono ?_); rintro e w_ ⟨rfl, N_⟩; have m := M.out.join N_; clear N_; simp only [List.cons_append, List.nil_append, List.append_nil] at m; have M := Lib.hid m; clear m; rw [HG.out])
        )
      go_ret2
      exact ⟨by rw [HR.out, prCode_good HG.out, ← HD.out]; first | rfl | skip, M.out.take 0⟩
theorem sl_net {w : World} {g : Nat} {t : TypeId} {x : Net} (h : Blk w g t x.vals.toArray) : Sl w 4 (some ⟨g, 0, none⟩) [x].length (flat Net.vals [x]) := by
  rw [show flat Net.vals [x] = x.vals by simp [flat]]
  exact ⟨rfl, fun _ => ⟨g, 0, rfl, fun j v hj => by
    rw [Nat.zero_add]
    exact h.cellv (by rw [List.getElem?_toArray]; exact hj)⟩⟩
set_option maxRecDepth 100000 in
set_option maxHeartbeats 4000000 in
theorem impl_CostOfNet_any (F : Fld) (hF : F.ok) (p : Prices) (hp : p.ok) (x : Net) (hx : x.ok) (w : World) :
    Calls Try.prog 24 #[.agg F.cells, .agg p.vals.toArray, .agg x.vals.toArray] w fun e w' => e = .returned (.tuple #[.int .i64 (costRes F p [x]), .int .i64 (prCode F p [x] Cs.z)]) ∧ Mem w w' [] := by
  have M := Lib.hid (Mem.start w)
  have S1 := Lib.hid (Fld.size hF.toLen)
  have CN := Lib.hid (fun (A : Option Addr) (n : Nat) (wx : World) (h : Sl wx 4 A [x].length (flat Net.vals [x])) => impl_CostOfNets_any F hF p hp A n [x] (fun y hy => by rw [List.mem_singleton.1 hy]; exact hx) (by simp) wx h)
  obtain ⟨r, hr⟩ : ∃ r, r = costRes F p [x] := ⟨_, rfl⟩
  obtain ⟨d, hd⟩ : ∃ d, d = prCode F p [x] Cs.z := ⟨_, rfl⟩
  rw [← hr, ← hd] at CN ⊢
  clear hr hd
  go_enter Try.func24, Try.ntmps24
  go_wp2_with (first
    | ((with_reducible refine gate_dst (N := 3) rfl ?_); go_must (refine M.out.ev_new rfl (by first | (go_simp; done) | (go_simp; rfl)) ?_); intro g3 w3 m; simp only [List.cons_append, List.nil_append] at m; have M := Lib.hid m; clear m)
    | ((with_reducible refine gate_dst (N := 4) rfl ?_); go_must (refine M.out.ev_new rfl (by first | (go_simp; done) | (go_simp; rfl)) ?_); intro g4 w4 m; simp only [List.cons_append, List.nil_append] at m; have M := Lib.hid m; clear m)
    | ((with_reducible refine gate_dst (N := 5) rfl ?_); go_must (refine M.out.ev_new rfl (by first | (go_simp; done) | (go_simp; rfl)) ?_); intro g5 w5 m; simp only [List.cons_append, List.nil_append] at m; have M := Lib.hid m; clear m)
    | ((with_reducible refine gate_dst (N := 8) rfl ?_); go_must (refine M.out.ev_ldw 0 _ _ rfl rfl rfl Try.underlying31 rfl (by first | exact sz31 | (rw [S1.out]; exact sz31) | (rw [S2.out]; exact sz31) | (rw [S3.out]; exact sz31)) rfl ?_))
    | ((with_reducible refine gate_dst (N := 9) rfl ?_); go_must (refine M.out.ev_ldw 1 _ _ rfl rfl rfl Try.underlying42 rfl (by first | exact sz42 | (rw [S1.out]; exact sz42) | (rw [S2.out]; exact sz42) | (rw [S3.out]; exact sz42)) rfl ?_))
    | ((with_reducible refine gate_dst (N := 10) rfl ?_); go_must (refine M.out.ev_ldw 2 _ _ rfl rfl rfl Try.underlying44 rfl (by first | exact sz44 | (rw [S1.out]; exact sz44) | (rw [S2.out]; exact sz44) | (rw [S3.out]; exact sz44)) rfl ?_))
    | ((with_reducible refine gate_dst (N := 11) rfl ?_); go_must (refine M.out.ev_bs1 elem_Net rfl _ rfl x.vals.toArray rfl rfl (by decide) ?_); intro g11 w11 m; simp only [List.cons_append, List.nil_append] at m; have M := Lib.hid m; clear m)
    | (go_at_call 36; go_must (refine (CN.out _ _ _ (sl_net (M.out.blk 3 rfl))).mono ?_); rintro e w_ ⟨rfl, N_⟩; have m := M.out.join N_; clear N_; simp only [List.cons_append, List.nil_append, List.append_nil] at m; have M := Lib.hid m; clear m)
    )
  go_ret2
  exact ⟨rfl, M.out.take 0⟩
theorem ntCode_1 (F : Fld) (x : Net) : ntCode F [x] Cs.z = if (F.valid && x.fits F) = true then 0 else 1 := by
  rw [ntCode_z, netsOk]
  simp
set_option maxRecDepth 100000 in
set_option maxHeartbeats 4000000 in
theorem ValidNet_any (F : Fld) (hF : F.ok) (x : Net) (hx : x.ok) (w : World) :
    Calls Try.prog 61 #[.agg F.cells, .agg x.vals.toArray] w fun e w' => e = .returned (.bool (F.valid && x.fits F)) ∧ Mem w w' [] := by
  have M := Lib.hid (Mem.start w)
  have S1 := Lib.hid (Fld.size hF.toLen)
  cases hv : F.valid <;>
  · have HV := Lib.hid hv
    clear hv
    go_enter Try.func61, Try.ntmps61
    go_wp2_with (first
      | ((with_reducible refine gate_dst (N := 2) rfl ?_); go_must (refine M.out.ev_new rfl (by first | (go_simp; done) | (go_simp; rfl)) ?_); intro g2 w2 m; simp only [List.cons_append, List.nil_append] at m; have M := Lib.hid m; clear m)
      | ((with_reducible refine gate_dst (N := 3) rfl ?_); go_must (refine M.out.ev_new rfl (by first | (go_simp; done) | (go_simp; rfl)) ?_); intro g3 w3 m; simp only [List.cons_append, List.nil_append] at m; have M := Lib.hid m; clear m)
      | ((with_reducible refine gate_dst (N := 7) rfl ?_); refine gate_want rfl ?_; go_must (refine M.out.ev_ldw 1 _ _ rfl rfl rfl Try.underlying44 rfl sz44 rfl ?_))
      | (go_at_call 94; go_must (refine (l01Ok_any g2 F hF _ (M.out.blk 0 rfl)).mono ?_); rintro e w_ ⟨rfl, rfl⟩; rw [HV.out])
      | (go_at_call 96; go_must (refine (l04Net_any g2 F hF HV.out x hx _ (M.out.blk 0 rfl)).mono ?_); rintro e w_ ⟨rfl, N_⟩; have m := M.out.join N_; clear N_; simp only [List.cons_append, List.nil_append, List.append_nil] at m; have M := Lib.hid m; clear m)
      )
    go_ret
    exact ⟨ret_bool (by simp), M.out.take 0⟩
set_option maxRecDepth 100000 in
set_option maxHeartbeats 4000000 in
theorem spec_CostOfNet_any (F : Fld) (hF : F.ok) (p : Prices) (hp : p.ok) (x : Net) (hx : x.ok) (w : World) :
    Calls Try.prog 21 #[.agg F.cells, .agg p.vals.toArray, .agg x.vals.toArray] w fun e w' => e = .returned (.tuple #[.int .i64 (costRes F p [x]), .int .i64 (prCode F p [x] Cs.z)]) ∧ Mem w w' [] := by
  have M := Lib.hid (Mem.start w)
  have S1 := Lib.hid (Fld.size hF.toLen)
  have VN := Lib.hid (fun w => ValidNet_any F hF x hx w)
  cases hv : (F.valid && x.fits F) <;> cases hg : p.good
  iterate 3
    · have HV := Lib.hid hv
      have HG := Lib.hid hg
      have hk : prCode F p [x] Cs.z = 1 := by
        first
          | exact prCode_bad HG.out
          | (rw [prCode_good HG.out, ntCode_1, HV.out]; rfl)
      have HR := Lib.hid (show costRes F p [x] = 0 by rw [costRes, if_neg (by rw [hk]; decide)])
      have HK := Lib.hid hk
      rw [hv] at VN
      clear hv hg hk
      go_enter Try.func21, Try.ntmps21
      go_wp2_with (first
        | ((with_reducible refine gate_dst (N := 3) rfl ?_); go_must (refine M.out.ev_new rfl (by first | (go_simp; done) | (go_simp; rfl)) ?_); intro g3 w3 m; simp only [List.cons_append, List.nil_append] at m; have M := Lib.hid m; clear m)
        | ((with_reducible refine gate_dst (N := 4) rfl ?_); go_must (refine M.out.ev_new rfl (by first | (go_simp; done) | (go_simp; rfl)) ?_); intro g4 w4 m; simp only [List.cons_append, List.nil_append] at m; have M := Lib.hid m; clear m)
        | ((with_reducible refine gate_dst (N := 5) rfl ?_); go_must (refine M.out.ev_new rfl (by first | (go_simp; done) | (go_simp; rfl)) ?_); intro g5 w5 m; simp only [List.cons_append, List.nil_append] at m; have M := Lib.hid m; clear m)
        | ((with_reducible refine gate_dst (N := 8) rfl ?_); go_must (refine M.out.ev_ldw 0 _ _ rfl rfl rfl Try.underlying31 rfl (by first | exact sz31 | (rw [S1.out]; exact sz31) | (rw [S2.out]; exact sz31) | (rw [S3.out]; exact sz31)) rfl ?_))
        | ((with_reducible refine gate_dst (N := 9) rfl ?_); go_must (refine M.out.ev_ldw 2 _ _ rfl rfl rfl Try.underlying44 rfl (by first | exact sz44 | (rw [S1.out]; exact sz44) | (rw [S2.out]; exact sz44) | (rw [S3.out]; exact sz44)) rfl ?_))
        | ((with_reducible refine gate_dst (N := 17) rfl ?_); go_must (refine M.out.ev_ldw 1 _ _ rfl rfl rfl Try.underlying42 rfl (by first | exact sz42 | (rw [S1.out]; exact sz42) | (rw [S2.out]; exact sz42) | (rw [S3.out]; exact sz42)) rfl ?_))
        | ((with_reducible refine gate_dst (N := 18) rfl ?_); go_must (refine M.out.ev_ldw 2 _ _ rfl rfl rfl Try.underlying44 rfl (by first | exact sz44 | (rw [S1.out]; exact sz44) | (rw [S2.out]; exact sz44) | (rw [S3.out]; exact sz44)) rfl ?_))
        | ((with_reducible refine gate_dst (N := 13) rfl ?_); refine gate_want rfl ?_; go_must (refine M.out.ev_ldw 1 _ _ rfl rfl rfl Try.underlying42 rfl sz42 rfl ?_))
        | (go_at_call 61; go_must (refine (VN.out _).mono ?_); rintro e w_ ⟨rfl, N_⟩; have m := M.out.join N_; clear N_; simp only [List.cons_append, List.nil_append, List.append_nil] at m; have M := Lib.hid m; clear m)
        | (go_at_call 62; go_must (refine (l04Prices_any p hp _).mono ?_); rintro e w_ ⟨rfl, N_⟩; have m := M.out.join N_; clear N_; simp only [List.cons_append, List.nil_append, List.append_nil] at m; have M := Lib.hid m; clear m; rw [HG.out])
        )
      go_ret2
      exact ⟨by rw [HR.out, HK.out]; first | rfl | skip, M.out.take 0⟩
  · have HV := Lib.hid hv
    have HG := Lib.hid hg
    have hpl : x.plain = true := by
      rw [Bool.and_eq_true] at hv
      exact Net.fits_plain hv.2
    have HPL := Lib.hid hpl
    have hk : prCode F p [x] Cs.z = 0 := by rw [prCode_good hg, ntCode_1, hv]; rfl
    have HR := Lib.hid (show costRes F p [x] = netCost p x by rw [costRes, if_pos hk]; simp [costs])
    have HK := Lib.hid hk
    rw [hv] at VN
    clear hv hg hpl hk
    go_enter Try.func21, Try.ntmps21
    go_wp2_with (first
      | ((with_reducible refine gate_dst (N := 3) rfl ?_); go_must (refine M.out.ev_new rfl (by first | (go_simp; done) | (go_simp; rfl)) ?_); intro g3 w3 m; simp only [List.cons_append, List.nil_append] at m; have M := Lib.hid m; clear m)
      | ((with_reducible refine gate_dst (N := 4) rfl ?_); go_must (refine M.out.ev_new rfl (by first | (go_simp; done) | (go_simp; rfl)) ?_); intro g4 w4 m; simp only [List.cons_append, List.nil_append] at m; have M := Lib.hid m; clear m)
      | ((with_reducible refine gate_dst (N := 5) rfl ?_); go_must (refine M.out.ev_new rfl (by first | (go_simp; done) | (go_simp; rfl)) ?_); intro g5 w5 m; simp only [List.cons_append, List.nil_append] at m; have M := Lib.hid m; clear m)
      | ((with_reducible refine gate_dst (N := 8) rfl ?_); go_must (refine M.out.ev_ldw 0 _ _ rfl rfl rfl Try.underlying31 rfl (by first | exact sz31 | (rw [S1.out]; exact sz31) | (rw [S2.out]; exact sz31) | (rw [S3.out]; exact sz31)) rfl ?_))
      | ((with_reducible refine gate_dst (N := 9) rfl ?_); go_must (refine M.out.ev_ldw 2 _ _ rfl rfl rfl Try.underlying44 rfl (by first | exact sz44 | (rw [S1.out]; exact sz44) | (rw [S2.out]; exact sz44) | (rw [S3.out]; exact sz44)) rfl ?_))
      | ((with_reducible refine gate_dst (N := 17) rfl ?_); go_must (refine M.out.ev_ldw 1 _ _ rfl rfl rfl Try.underlying42 rfl (by first | exact sz42 | (rw [S1.out]; exact sz42) | (rw [S2.out]; exact sz42) | (rw [S3.out]; exact sz42)) rfl ?_))
      | ((with_reducible refine gate_dst (N := 18) rfl ?_); go_must (refine M.out.ev_ldw 2 _ _ rfl rfl rfl Try.underlying44 rfl (by first | exact sz44 | (rw [S1.out]; exact sz44) | (rw [S2.out]; exact sz44) | (rw [S3.out]; exact sz44)) rfl ?_))
      | ((with_reducible refine gate_dst (N := 13) rfl ?_); refine gate_want rfl ?_; go_must (refine M.out.ev_ldw 1 _ _ rfl rfl rfl Try.underlying42 rfl sz42 rfl ?_))
      | (go_at_call 61; go_must (refine (VN.out _).mono ?_); rintro e w_ ⟨rfl, N_⟩; have m := M.out.join N_; clear N_; simp only [List.cons_append, List.nil_append, List.append_nil] at m; have M := Lib.hid m; clear m)
      | (go_at_call 62; go_must (refine (l04Prices_any p hp _).mono ?_); rintro e w_ ⟨rfl, N_⟩; have m := M.out.join N_; clear N_; simp only [List.cons_append, List.nil_append, List.append_nil] at m; have M := Lib.hid m; clear m; rw [HG.out])
      | (go_at_call 63; go_must (refine (l04Cost_any p HG.out x HPL.out _).mono ?_); rintro e w_ ⟨rfl, N_⟩; have m := M.out.join N_; clear N_; simp only [List.cons_append, List.nil_append, List.append_nil] at m; have M := Lib.hid m; clear m)
      )
    go_ret2
    exact ⟨by rw [HR.out, HK.out]; first | rfl | skip, M.out.take 0⟩
end Go.Proofs.Ytnddoiapilookaa
