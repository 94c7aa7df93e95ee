/- Texts of a proof, laid together: Cost2, Neq, Tree, GreedyP. -/
import Derived.Test.YtjkclggdaafmaaaZD11
import Derived.Test.YtjkclggdaafmaaaZD05
import Derived.Test.YtjkclggdaafmaaaZD10
import Derived.Test.YtjkclggdaafmaaaZD08
import Derived.Test.YtjkclggdaafmaaaZD02
namespace Go.Proofs.Ytjkclggdaafmaaa
set_option linter.unusedSimpArgs false
set_option linter.unusedVariables false
open Go.RowKit
attribute [local go_sem] cell?_mk frozen?_mk
--ONES exact Net.one _ | exact Prices.one _
def prCode (F : Fld) (p : Prices) (xs : List Net) (c : Cs) : Int := if p.good = true then ntCode F xs c else 1
theorem prCode_bad {F : Fld} {p : Prices} {xs : List Net} {c : Cs} (h : p.good = false) : prCode F p xs c = 1 := by
  rw [prCode, h]
  rfl
theorem prCode_good {F : Fld} {p : Prices} {xs : List Net} {c : Cs} (h : p.good = true) : prCode F p xs c = ntCode F xs c := by
  rw [prCode, h, if_pos rfl]
def costRes (F : Fld) (p : Prices) (xs : List Net) : Int := if prCode F p xs Cs.z = 0 then costs p xs else 0
set_option maxRecDepth 100000 in
set_option maxHeartbeats 4000000 in
theorem pricesCode_any (g : Nat) {t : TypeId} (F : Fld) (hF : F.ok) (p : Prices) (hp : p.ok) (A : Option Addr) (n : Nat) (xs : List Net) (hx : ∀ x ∈ xs, x.ok) (hl : xs.length ≤ 1048576) (c : Cs) (hc : c.ok) (w : World) (hb : Blk w g t F.cells) (hs : Sl w 4 A xs.length (flat Net.vals xs)) :
    Calls Try.prog 41 #[.pointer (some ⟨g, 0, none⟩), .agg p.vals.toArray, .slice A xs.length n, .agg c.cells] w fun e w' => e = .returned (.int .i64 (prCode F p xs c)) ∧ Mem w w' [] := by
  have M := Lib.hid (Mem.start w)
  have HX := Lib.hid hx
  have HS := Lib.hid hs
  have HB := Lib.hid hb
  have HF := Lib.hid hF
  clear hx hs hb hF
  cases hg : p.good
  · have HG := Lib.hid hg
    clear hg
    go_enter Try.func41, Try.ntmps41
    go_wp2_with (first
      | ((with_reducible refine gate_dst (N := 5) rfl ?_); go_must (refine M.out.ev_new rfl (by first | (go_simp; done) | (go_simp; rfl)) ?_); intro g5 w5 m; simp only [List.cons_append, List.nil_append] at m; have M := Lib.hid m; clear m)
      | ((with_reducible refine gate_dst (N := 7) rfl ?_); go_must (refine M.out.ev_new rfl (by first | (go_simp; done) | (go_simp; rfl)) ?_); intro g7 w7 m; simp only [List.cons_append, List.nil_append] at m; have M := Lib.hid m; clear m)
      | ((with_reducible refine gate_dst (N := 9) rfl ?_); go_must (refine M.out.ev_ldw 0 _ _ rfl rfl rfl Try.underlying37 rfl (by first | exact sz37 | (rw [S1.out]; exact sz37) | (rw [S2.out]; exact sz37) | (rw [S3.out]; exact sz37)) rfl ?_))
      | ((with_reducible refine gate_dst (N := 14) rfl ?_); go_must (refine M.out.ev_ldw 1 _ _ rfl rfl rfl Try.underlying39 rfl (by first | exact sz39 | (rw [S1.out]; exact sz39) | (rw [S2.out]; exact sz39) | (rw [S3.out]; exact sz39)) rfl ?_))
      | (go_at_call 76; go_must (refine (ValidPrices_any p hp _).mono ?_); rintro e w_ ⟨rfl, N_⟩; have m := M.out.join N_; clear N_; simp only [List.cons_append, List.nil_append, List.append_nil] at m; have M := Lib.hid m; clear m; rw [HG.out])
      )
    go_ret
    exact ⟨ret_int (prCode_bad HG.out).symm, M.out.take 0⟩
  · have HG := Lib.hid hg
    clear hg
    go_enter Try.func41, Try.ntmps41
    go_wp2_with (first
      | ((with_reducible refine gate_dst (N := 5) rfl ?_); go_must (refine M.out.ev_new rfl (by first | (go_simp; done) | (go_simp; rfl)) ?_); intro g5 w5 m; simp only [List.cons_append, List.nil_append] at m; have M := Lib.hid m; clear m)
      | ((with_reducible refine gate_dst (N := 7) rfl ?_); go_must (refine M.out.ev_new rfl (by first | (go_simp; done) | (go_simp; rfl)) ?_); intro g7 w7 m; simp only [List.cons_append, List.nil_append] at m; have M := Lib.hid m; clear m)
      | ((with_reducible refine gate_dst (N := 9) rfl ?_); go_must (refine M.out.ev_ldw 0 _ _ rfl rfl rfl Try.underlying37 rfl (by first | exact sz37 | (rw [S1.out]; exact sz37) | (rw [S2.out]; exact sz37) | (rw [S3.out]; exact sz37)) rfl ?_))
      | ((with_reducible refine gate_dst (N := 14) rfl ?_); go_must (refine M.out.ev_ldw 1 _ _ rfl rfl rfl Try.underlying39 rfl (by first | exact sz39 | (rw [S1.out]; exact sz39) | (rw [S2.out]; exact sz39) | (rw [S3.out]; exact sz39)) rfl ?_))
      | (go_at_call 76; go_must (refine (ValidPrices_any p hp _).mono ?_); rintro e w_ ⟨rfl, N_⟩; have m := M.out.join N_; clear N_; simp only [List.cons_append, List.nil_append, List.append_nil] at m; have M := Lib.hid m; clear m; rw [HG.out])
      | (go_at_call 77; go_must (refine (netsCode_any g F HF.out A n xs HX.out hl c hc _ (M.out.arg HB.out) (M.out.sl HS.out)).mono ?_); rintro e w_ ⟨rfl, N_⟩; have m := M.out.join N_; clear N_; simp only [List.cons_append, List.nil_append, List.append_nil] at m; have M := Lib.hid m; clear m)
      )
    go_ret
    exact ⟨ret_int (prCode_good HG.out).symm, M.out.take 0⟩
set_option maxRecDepth 100000 in
set_option maxHeartbeats 4000000 in
theorem impl_CostOfNets_any (F : Fld) (hF : F.ok) (p : Prices) (hp : p.ok) (A : Option Addr) (n : Nat) (xs : List Net) (hx : ∀ x ∈ xs, x.ok) (hl : xs.length ≤ 1048576) (w : World) (hs : Sl w 4 A xs.length (flat Net.vals xs)) :
    Calls Try.prog 70 #[.agg F.cells, .agg p.vals.toArray, .slice A xs.length n] w fun e w' => e = .returned (.tuple #[.int .i64 (costRes F p xs), .int .i64 (prCode F p xs Cs.z)]) ∧ Mem w w' [] := by
  have M := Lib.hid (Mem.start w)
  have HX := Lib.hid hx
  have HS := Lib.hid hs
  have HF := Lib.hid hF
  have S1 := Lib.hid (Fld.size hF.toLen)
  clear hx hs hF
  by_cases hk : prCode F p xs Cs.z = 0
  · have HR := Lib.hid (show costRes F p xs = costs p xs by rw [costRes, if_pos hk])
    have hg : p.good = true := by
      cases h : p.good
      · rw [prCode_bad h] at hk; cases hk
      · rfl
    have HN := Lib.hid (show ntCode F xs Cs.z = 0 by rw [← prCode_good hg]; exact hk)
    have hok := netsOk_iff.1 (ntCode_0 HN.out).1
    have HPL := Lib.hid (show ∀ x ∈ xs, x.plain = true from fun x hx => Net.fits_plain (hok.2 x hx))
    have HK := Lib.hid hk
    have HG := Lib.hid hg
    clear hk hok hg
    go_enter Try.func70, Try.ntmps70
    go_wp2_with (first
      | ((with_reducible refine gate_dst (N := 3) rfl ?_); go_must (refine M.out.ev_new rfl (by first | (go_simp; done) | (go_simp; rfl)) ?_); intro g3 w3 m; simp only [List.cons_append, List.nil_append] at m; have M := Lib.hid m; clear m)
      | ((with_reducible refine gate_dst (N := 4) rfl ?_); go_must (refine M.out.ev_new rfl (by first | (go_simp; done) | (go_simp; rfl)) ?_); intro g4 w4 m; simp only [List.cons_append, List.nil_append] at m; have M := Lib.hid m; clear m)
      | ((with_reducible refine gate_dst (N := 9) rfl ?_); go_must (refine M.out.ev_ldw 1 _ _ rfl rfl rfl Try.underlying37 rfl (by first | exact sz37 | (rw [S1.out]; exact sz37) | (rw [S2.out]; exact sz37) | (rw [S3.out]; exact sz37)) rfl ?_))
      | ((with_reducible refine gate_dst (N := 16) rfl ?_); go_must (refine M.out.ev_ldw 1 _ _ rfl rfl rfl Try.underlying37 rfl (by first | exact sz37 | (rw [S1.out]; exact sz37) | (rw [S2.out]; exact sz37) | (rw [S3.out]; exact sz37)) rfl ?_))
      | (go_at_call 41; go_must (refine (pricesCode_any g3 F HF.out p hp A n xs HX.out hl Cs.z Cs.z_ok _ (M.out.blk 0 rfl) (M.out.sl HS.out)).mono ?_); rintro e w_ ⟨rfl, N_⟩; have m := M.out.join N_; clear N_; simp only [List.cons_append, List.nil_append, List.append_nil] at m; have M := Lib.hid m; clear m; rw [HK.out])
      | (go_at_call 47; go_must (refine (costP_any p HG.out A n xs HPL.out hl _ (M.out.sl HS.out)).mono ?_); rintro e w_ ⟨rfl, N_⟩; have m := M.out.join N_; clear N_; simp only [List.cons_append, List.nil_append, List.append_nil] at m; have M := Lib.hid m; clear m)
      )
    go_ret2
    exact ⟨by rw [HR.out, HK.out]; first | rfl | skip, M.out.take 0⟩
  · have HR := Lib.hid (show costRes F p xs = 0 by rw [costRes, if_neg hk])
    obtain ⟨d, hd⟩ : ∃ d, d = prCode F p xs Cs.z := ⟨_, rfl⟩
    have HD := Lib.hid hd
    rw [← hd] at hk
    clear hd
    go_enter Try.func70, Try.ntmps70
    go_wp2_with (first
      | ((with_reducible refine gate_dst (N := 3) rfl ?_); go_must (refine M.out.ev_new rfl (by first | (go_simp; done) | (go_simp; rfl)) ?_); intro g3 w3 m; simp only [List.cons_append, List.nil_append] at m; have M := Lib.hid m; clear m)
      | ((with_reducible refine gate_dst (N := 4) rfl ?_); go_must (refine M.out.ev_new rfl (by first | (go_simp; done) | (go_simp; rfl)) ?_); intro g4 w4 m; simp only [List.cons_append, List.nil_append] at m; have M := Lib.hid m; clear m)
      | ((with_reducible refine gate_dst (N := 9) rfl ?_); go_must (refine M.out.ev_ldw 1 _ _ rfl rfl rfl Try.underlying37 rfl (by first | exact sz37 | (rw [S1.out]; exact sz37) | (rw [S2.out]; exact sz37) | (rw [S3.out]; exact sz37)) rfl ?_))
      | ((with_reducible refine gate_dst (N := 16) rfl ?_); go_must (refine M.out.ev_ldw 1 _ _ rfl rfl rfl Try.underlying37 rfl (by first | exact sz37 | (rw [S1.out]; exact sz37) | (rw [S2.out]; exact sz37) | (rw [S3.out]; exact sz37)) rfl ?_))
      | (go_at_call 41; go_must (refine (pricesCode_any g3 F HF.out p hp A n xs HX.out hl Cs.z Cs.z_ok _ (M.out.blk 0 rfl) (M.out.sl HS.out)).mono ?_); rintro e w_ ⟨rfl, N_⟩; have m := M.out.join N_; clear N_; simp only [List.cons_append, List.nil_append, List.append_nil] at m; have M := Lib.hid m; clear m; rw [← HD.out])
      )
    go_ret2
    exact ⟨by rw [HR.out, ← HD.out]; first | rfl | skip, M.out.take 0⟩
theorem sl_net {w : World} {g : Nat} {t : TypeId} {x : Net} (h : Blk w g t x.vals.toArray) : Sl w 4 (some ⟨g, 0, none⟩) [x].length (flat Net.vals [x]) := by
  rw [show flat Net.vals [x] = x.vals by simp [flat]]
  exact ⟨rfl, fun _ => ⟨g, 0, rfl, fun j v hj => by
    rw [Nat.zero_add]
    exact h.cellv (by rw [List.getElem?_toArray]; exact hj)⟩⟩
set_option maxRecDepth 100000 in
set_option maxHeartbeats 4000000 in
theorem impl_CostOfNet_any (F : Fld) (hF : F.ok) (p : Prices) (hp : p.ok) (x : Net) (hx : x.ok) (w : World) :
    Calls Try.prog 29 #[.agg F.cells, .agg p.vals.toArray, .agg x.vals.toArray] w fun e w' => e = .returned (.tuple #[.int .i64 (costRes F p [x]), .int .i64 (prCode F p [x] Cs.z)]) ∧ Mem w w' [] := by
  have M := Lib.hid (Mem.start w)
  have S1 := Lib.hid (Fld.size hF.toLen)
  have CN := Lib.hid (fun (A : Option Addr) (n : Nat) (wx : World) (h : Sl wx 4 A [x].length (flat Net.vals [x])) => impl_CostOfNets_any F hF p hp A n [x] (fun y hy => by rw [List.mem_singleton.1 hy]; exact hx) (by simp) wx h)
  obtain ⟨r, hr⟩ : ∃ r, r = costRes F p [x] := ⟨_, rfl⟩
  obtain ⟨d, hd⟩ : ∃ d, d = prCode F p [x] Cs.z := ⟨_, rfl⟩
  rw [← hr, ← hd] at CN ⊢
  clear hr hd
  go_enter Try.func29, Try.ntmps29
  go_wp2_with (first
    | ((with_reducible refine gate_dst (N := 3) rfl ?_); go_must (refine M.out.ev_new rfl (by first | (go_simp; done) | (go_simp; rfl)) ?_); intro g3 w3 m; simp only [List.cons_append, List.nil_append] at m; have M := Lib.hid m; clear m)
    | ((with_reducible refine gate_dst (N := 4) rfl ?_); go_must (refine M.out.ev_new rfl (by first | (go_simp; done) | (go_simp; rfl)) ?_); intro g4 w4 m; simp only [List.cons_append, List.nil_append] at m; have M := Lib.hid m; clear m)
    | ((with_reducible refine gate_dst (N := 5) rfl ?_); go_must (refine M.out.ev_new rfl (by first | (go_simp; done) | (go_simp; rfl)) ?_); intro g5 w5 m; simp only [List.cons_append, List.nil_append] at m; have M := Lib.hid m; clear m)
    | ((with_reducible refine gate_dst (N := 8) rfl ?_); go_must (refine M.out.ev_ldw 0 _ _ rfl rfl rfl Try.underlying35 rfl (by first | exact sz35 | (rw [S1.out]; exact sz35) | (rw [S2.out]; exact sz35) | (rw [S3.out]; exact sz35)) rfl ?_))
    | ((with_reducible refine gate_dst (N := 9) rfl ?_); go_must (refine M.out.ev_ldw 1 _ _ rfl rfl rfl Try.underlying37 rfl (by first | exact sz37 | (rw [S1.out]; exact sz37) | (rw [S2.out]; exact sz37) | (rw [S3.out]; exact sz37)) rfl ?_))
    | ((with_reducible refine gate_dst (N := 10) rfl ?_); go_must (refine M.out.ev_ldw 2 _ _ rfl rfl rfl Try.underlying65 rfl (by first | exact sz65 | (rw [S1.out]; exact sz65) | (rw [S2.out]; exact sz65) | (rw [S3.out]; exact sz65)) rfl ?_))
    | ((with_reducible refine gate_dst (N := 11) rfl ?_); go_must (refine M.out.ev_bs1 elem_Net rfl _ rfl x.vals.toArray rfl rfl (by decide) ?_); intro g11 w11 m; simp only [List.cons_append, List.nil_append] at m; have M := Lib.hid m; clear m)
    | (go_at_call 70; go_must (refine (CN.out _ _ _ (sl_net (M.out.blk 3 rfl))).mono ?_); rintro e w_ ⟨rfl, N_⟩; have m := M.out.join N_; clear N_; simp only [List.cons_append, List.nil_append, List.append_nil] at m; have M := Lib.hid m; clear m)
    )
  go_ret2
  exact ⟨rfl, M.out.take 0⟩
end Go.Proofs.Ytjkclggdaafmaaa
namespace Go.Proofs.Ytjkclggdaafmaaa
set_option linter.unusedSimpArgs false
set_option linter.unusedVariables false
open Go.RowKit
attribute [local go_sem] cell?_mk frozen?_mk

theorem neqCs (a b : Cs) (w : World) : (binOp .neq 39 (.agg a.cells) (.agg b.cells)).run Try.prog w = .ok (.bool (!a.same b)) w := by
  rw [run_neq_struct]
  show ((Op.equalIn 10000 39 (.agg #[.int .u64 a.lo, .int .u64 a.hi]) (.agg #[.int .u64 b.lo, .int .u64 b.hi])).run Try.prog w).andThen _ = _
  rw [eqCsInt]
  show Result.ok (Value.bool _) w = _
  congr 2
  rw [Cs.same, Bool.eq_iff_iff]
  simp
  omega
end Go.Proofs.Ytjkclggdaafmaaa
namespace Go.Proofs.Ytjkclggdaafmaaa
set_option linter.unusedSimpArgs false
set_option linter.unusedVariables false
open Go.RowKit
attribute [local go_sem] cell?_mk frozen?_mk
--ONES exact Cs.one _
theorem Sl.range {w : World} {sz b off n : Nat} {cs : List Value} (h : Sl w sz (some ⟨b, off, none⟩) n cs) (hn : 0 < n) : w.rangeAt b off cs := by
  obtain ⟨b', off', he, hr⟩ := h.2 hn
  injection he with he
  injection he with h1 h2
  subst h1 h2
  exact hr
theorem mem_all {c : Cs} {k : Nat} : k ∈ c.all ↔ k < 100 ∧ c.has k = true := by
  rw [Cs.all, Cs.below, List.mem_filter, List.mem_range]
theorem all_congr' {a b : Cs} (h : ∀ k, k < 100 → a.has k = b.has k) : a.all = b.all := by
  unfold Cs.all Cs.below
  refine List.filter_congr fun k hk => h k (List.mem_range.1 hk)
/-- Whether a target has a tree. -/
def wood (F : Fld) (c : Cs) : Bool := c.all.any fun k => F.kind k == 3
theorem wood_set {F : Fld} {c : Cs} (hc : c.ok) (h : ∀ k ∈ c.all, F.has k = true) : (c.both (ofKd F 3)).same Cs.z = !wood F c := by
  rw [Bool.eq_iff_iff, Cs.same_iff, Bool.not_eq_true', wood, List.any_eq_false]
  constructor
  · intro h0 k hk
    obtain ⟨k1, k2⟩ := mem_all.1 hk
    have := Cs.both_has c (ofKd F 3) k1
    rw [h0, k2, ofKd_has F 3 k1, h k hk] at this
    intro hq
    rw [hq] at this
    simp [Cs.has, Cs.z] at this
  · intro h0
    refine Cs.ext_has (Cs.both_ok hc) Cs.z_ok fun k hk => ?_
    rw [show Cs.z.has k = false by unfold Cs.has Cs.z; split <;> simp]
    by_cases h1 : k < 100
    · rw [Cs.both_has c _ h1, ofKd_has F 3 h1]
      cases hk2 : c.has k
      · rfl
      · have := h0 k (mem_all.2 ⟨h1, hk2⟩)
        rw [Bool.not_eq_true] at this
        rw [this]
        simp
    · unfold Cs.both
      exact Cs.cut_small _ (by omega) hk
set_option maxRecDepth 100000 in
set_option maxHeartbeats 2000000 in
theorem haveTree_any (g : Nat) {t : TypeId} (F : Fld) (hF : F.ok) (c : Cs) (hc : c.ok) (hin : ∀ k ∈ c.all, F.has k = true) (w : World) (hb : Blk w g t F.cells) :
    Calls Try.prog 43 #[.pointer (some ⟨g, 0, none⟩), .agg c.cells] w fun e w' => e = .returned (.bool (wood F c)) ∧ Mem w w' [] := by
  have M := Lib.hid (Mem.start w)
  have HB := Lib.hid hb
  have heq := neqCs (c.both (ofKd F 3)) Cs.z
  rw [wood_set hc hin, Bool.not_not] at heq
  change ∀ w, (binOp .neq 39 (.agg (c.both (ofKd F 3)).cells) (.agg #[.int .u64 0, .int .u64 0])).run Try.prog w = _ at heq
  clear hb
  go_enter Try.func43, Try.ntmps43
  go_wp2_with (first
    | ((with_reducible refine gate_dst (N := 3) rfl ?_); go_must (refine M.out.ev_new rfl (by first | (go_simp; done) | (go_simp; rfl)) ?_); intro g3 w3 m; simp only [List.cons_append, List.nil_append] at m; have M := Lib.hid m; clear m)
    | ((with_reducible refine gate_dst (N := 5) rfl ?_); go_must (refine M.out.ev_ldw 0 _ _ rfl rfl rfl Try.underlying39 rfl (by first | exact sz39 | (rw [S1.out]; exact sz39) | (rw [S2.out]; exact sz39) | (rw [S3.out]; exact sz39)) rfl ?_))
    )
  refine region_anyH (fun w' => Mem w w' [.blk g3 39 c.cells]) (by kernel_rfl) ?_
  have m := M.out.drew
  clear M
  have M := Lib.hid m
  clear m
  apply takeH (i := 0) 5 rfl (by kernel_rfl) (by kernel_rfl) (by kernel_rfl) (fun _ _ _ h => h) rfl (by first | exact M.out | exact M.out.take 1)
  case' hy => exact yldw _ _ rfl rfl Try.underlying39 rfl (by first | exact sz39 | (rw [S1.out]; exact sz39) | (rw [S2.out]; exact sz39) | (rw [S3.out]; exact sz39)) rfl (fun w' hS => hS.blk 0 rfl)
  try simp only [Act.put, List.getElem_toArray, List.getElem_cons_succ, List.getElem_cons_zero, List.setIfInBounds_toArray, List.set_cons_succ, List.set_cons_zero]
  apply takeH (i := 1) 6 rfl (by kernel_rfl) (by kernel_rfl) (by kernel_rfl) (fun _ _ _ h => h) rfl (by first | exact M.out | exact M.out.take 1)
  case' hy =>
    refine Or.inl ⟨by first | rfl | (go_simp; done), ?_⟩
    intro w hS
    clear hS
    go_simp
    try with_reducible rfl
  try simp only [Act.put, List.getElem_toArray, List.getElem_cons_succ, List.getElem_cons_zero, List.setIfInBounds_toArray, List.set_cons_succ, List.set_cons_zero]
  apply takeH (i := 4) 9 rfl (by kernel_rfl) (by kernel_rfl) (by kernel_rfl) (fun _ _ _ h => h) rfl (by first | exact M.out | exact M.out.take 1)
  case' hy =>
    refine Or.inl ⟨by first | rfl | (go_simp; done), ?_⟩
    intro w hS
    clear hS
    go_simp
    try with_reducible rfl
  try simp only [Act.put, List.getElem_toArray, List.getElem_cons_succ, List.getElem_cons_zero, List.setIfInBounds_toArray, List.set_cons_succ, List.set_cons_zero]
  refine any1H 2 (by kernel_rfl) rfl (fun K hK => ?_)
  go_wp2_with (first | ((with_reducible refine gate_dst (N := 5) rfl ?_); go_must (refine M.out.ev_ldw 0 _ _ rfl rfl rfl Try.underlying39 rfl (by first | exact sz39 | (rw [S1.out]; exact sz39) | (rw [S2.out]; exact sz39) | (rw [S3.out]; exact sz39)) rfl ?_)) | (go_at_call 79; go_must (refine (ofKind_any g F hF 3 _ (M.out.arg HB.out)).mono ?_); rintro e w_ ⟨rfl, N_⟩; have m := M.out.join N_; clear N_; simp only [List.cons_append, List.nil_append, List.append_nil] at m; have M := Lib.hid m; clear m) | (go_at_call 78; go_must (refine (BothOf_any _ _ hc (ofKd_ok F 3) _).mono ?_); rintro e w_ ⟨rfl, N_⟩; have m := M.out.join N_; clear N_; simp only [List.cons_append, List.nil_append, List.append_nil] at m; have M := Lib.hid m; clear m))
  refine onward_normal (hK _ _ ⟨(by first | exact M.out | exact M.out.take 1), ?_⟩)
  clear hK K
  try simp only [Act.put, List.getElem_toArray, List.getElem_cons_succ, List.getElem_cons_zero, List.setIfInBounds_toArray, List.set_cons_succ, List.set_cons_zero]
  refine any1H 3 (by kernel_rfl) rfl (fun K hK => ?_)
  go_wp2_with (first | ((with_reducible refine gate_dst (N := 5) rfl ?_); go_must (refine M.out.ev_ldw 0 _ _ rfl rfl rfl Try.underlying39 rfl (by first | exact sz39 | (rw [S1.out]; exact sz39) | (rw [S2.out]; exact sz39) | (rw [S3.out]; exact sz39)) rfl ?_)) | (go_at_call 79; go_must (refine (ofKind_any g F hF 3 _ (M.out.arg HB.out)).mono ?_); rintro e w_ ⟨rfl, N_⟩; have m := M.out.join N_; clear N_; simp only [List.cons_append, List.nil_append, List.append_nil] at m; have M := Lib.hid m; clear m) | (go_at_call 78; go_must (refine (BothOf_any _ _ hc (ofKd_ok F 3) _).mono ?_); rintro e w_ ⟨rfl, N_⟩; have m := M.out.join N_; clear N_; simp only [List.cons_append, List.nil_append, List.append_nil] at m; have M := Lib.hid m; clear m))
  refine onward_normal (hK _ _ ⟨(by first | exact M.out | exact M.out.take 1), ?_⟩)
  clear hK K
  try simp only [Act.put, List.getElem_toArray, List.getElem_cons_succ, List.getElem_cons_zero, List.setIfInBounds_toArray, List.set_cons_succ, List.set_cons_zero]
  apply takeH (i := 5) 10 rfl (by kernel_rfl) (by kernel_rfl) (by kernel_rfl) (fun _ _ _ h => h) rfl (by first | exact M.out | exact M.out.take 1)
  case' hy =>
    refine Or.inl ⟨by first | rfl | (go_simp; done), ?_⟩
    intro w hS
    clear hS
    go_simp
    try with_reducible rfl
  try simp only [Act.put, List.getElem_toArray, List.getElem_cons_succ, List.getElem_cons_zero, List.setIfInBounds_toArray, List.set_cons_succ, List.set_cons_zero]
  apply takeH (i := 6) 4 rfl (by kernel_rfl) (by kernel_rfl) (by kernel_rfl) (fun _ _ _ h => h) rfl (by first | exact M.out | exact M.out.take 1)
  case' hy =>
    refine Or.inl ⟨by first | rfl | (go_simp; done), ?_⟩
    intro w hS
    clear hS
    go_simp
    try with_reducible rfl
  try simp only [Act.put, List.getElem_toArray, List.getElem_cons_succ, List.getElem_cons_zero, List.setIfInBounds_toArray, List.set_cons_succ, List.set_cons_zero]
  refine wpAnyH_done (by kernel_rfl) ?_ _
  all_goals
    go_wp2
    go_ret
    exact ⟨rfl, M.out.take 0⟩
set_option maxRecDepth 100000 in
set_option maxHeartbeats 2000000 in
theorem l04Wood_any (g h : Nat) {t t' : TypeId} (F : Fld) (hF : F.ok) (c : Cs) (hc : c.ok) (w : World) (hb : Blk w g t F.cells) (hcb : Blk w h t' c.cells) :
    Calls Try.prog 33 #[.pointer (some ⟨g, 0, none⟩), .pointer (some ⟨h, 0, none⟩)] w fun e w' => e = .returned (.bool (wood F c)) ∧ Mem w w' [] := by
  have M := Lib.hid (Mem.start w)
  have HB := Lib.hid hb
  have HCB := Lib.hid hcb
  have hcl : c.all.length ≤ 100 := c.below_len 100
  clear hb hcb
  go_enter Try.func33, Try.ntmps33
  go_wp2_with (first
    | (go_at_call 34; go_must (refine (l01List_any h c hc _ (M.out.arg HCB.out)).mono ?_); rintro e w_ ⟨A_, c_, rfl, hc_, N_⟩; have m := M.out.join N_; clear N_; simp only [List.cons_append, List.nil_append, List.append_nil] at m; have M := Lib.hid m; clear m)
    )
  go_loopw [6] (fun v wr => ∃ k : Nat, k ≤ c.all.length ∧ v = .int .i64 k ∧ ((c.all.take k).any fun k => F.kind k == 3) = false ∧ Mem w wr [.row (.slice A_ c.all.length c_) 2 1 c.all.length (flat one64 c.all)])
    (fun v _ => c.all.length - (intOf v).toNat)
  case atStart => exact ⟨0, by omega, rfl, rfl, M.out⟩
  case round =>
    clear M
    obtain ⟨k, hk, rfl, hany, m⟩ := hrel
    have M := Lib.hid m
    have HA := Lib.hid hany
    clear m hany
    by_cases hlt : k < c.all.length
    · obtain ⟨b, off, rfl, hr⟩ := (M.out.slof 0 rfl).2 (by omega)
      have hxk : c.all[k]? = some c.all[k] := List.getElem?_eq_getElem hlt
      have R := range_at one64_len hr hxk
      have HTK := Lib.hid (List.take_succ_eq_append_getElem hlt)
      have HME := Lib.hid (List.getElem_mem hlt)
      have hj2 := (mem_all.1 (List.getElem_mem hlt)).1
      obtain ⟨j, hj⟩ : ∃ j, j = c.all[k] := ⟨_, rfl⟩
      rw [← hj] at R HTK HME hj2
      have x0 : wr.cell? ⟨b, off + k, none⟩ = some (.int .i64 j) := by simpa [nat64] using R 0 _ rfl
      have i0 : (0 : Int) ≤ (k : Int) := by omega
      have i1 : (k : Int) < (c.all.length : Int) := by omega
      have j0 : (0 : Int) ≤ (j : Int) := by omega
      have j1 : (j : Int) < 100 := by omega
      have y4 := (M.out.arg HB.out).cellv (Fld.cellK hF.toLen (k := j) hj2)
      clear hr hxk R hj
      cases hq : (F.kind j == 3)
      all_goals
        have HQ := Lib.hid hq
        go_wp2
        go_quiet (fail)
        have M := Lib.hid (M.out.drewN nq)
        go_wp2
      · refine ⟨⟨k + 1, by omega, by go_num, ?_, M.out⟩, by simp [intOf]; omega⟩
        rw [HTK.out, List.any_append, HA.out]
        simp [HQ.out]
      · go_ret
        refine ⟨ret_bool ?_, M.out.take 0⟩
        symm
        rw [wood, List.any_eq_true]
        exact ⟨j, HME.out, HQ.out⟩
    · obtain rfl : k = c.all.length := by omega
      go_wp2
      go_ret
      refine ⟨ret_bool ?_, M.out.take 0⟩
      have := HA.out
      rw [List.take_length] at this
      rw [wood, this]
set_option maxRecDepth 100000 in
set_option maxHeartbeats 2000000 in
theorem l04Priced_any (g h : Nat) {t t' : TypeId} (F : Fld) (hF : F.ok) (p : Prices) (hp : p.ok) (c : Cs) (hc : c.ok) (w : World) (hb : Blk w g t F.cells) (hcb : Blk w h t' c.cells) :
    Calls Try.prog 31 #[.pointer (some ⟨g, 0, none⟩), .agg p.vals.toArray, .pointer (some ⟨h, 0, none⟩)] w fun e w' => e = .returned (.int .i64 (prCode F p [] c)) ∧ Mem w w' [] := by
  have M := Lib.hid (Mem.start w)
  have HB := Lib.hid hb
  have HCB := Lib.hid hcb
  clear hb hcb
  cases hq : p.good
  all_goals
    have HQ := Lib.hid hq
    have HR := Lib.hid (show prCode F p [] c = if p.good = true then ntCode F [] c else 1 from rfl)
    clear hq
    go_enter Try.func31, Try.ntmps31
    go_wp2_with (first
      | ((with_reducible refine gate_dst (N := 4) rfl ?_); go_must (refine M.out.ev_new rfl (by first | (go_simp; done) | (go_simp; rfl)) ?_); intro g4 w4 m; simp only [List.cons_append, List.nil_append] at m; have M := Lib.hid m; clear m)
      | ((with_reducible refine gate_dst (N := 7) rfl ?_); go_must (refine M.out.ev_ldw 0 _ _ rfl rfl rfl Try.underlying37 rfl (by first | exact sz37 | (rw [S1.out]; exact sz37) | (rw [S2.out]; exact sz37) | (rw [S3.out]; exact sz37)) rfl ?_))
      | (go_at_call 72; go_must (refine (l04Prices_any p hp _).mono ?_); rintro e w_ ⟨rfl, N_⟩; have m := M.out.join N_; clear N_; simp only [List.cons_append, List.nil_append, List.append_nil] at m; have M := Lib.hid m; clear m; rw [HQ.out])
      | (go_at_call 73; go_must (refine (l04Targets_any g h F hF none 0 [] (fun _ h => absurd h (by simp)) (by simp) c hc _ (M.out.arg HB.out) Sl.nil_ (M.out.arg HCB.out)).mono ?_); rintro e w_ ⟨rfl, N_⟩; have m := M.out.join N_; clear N_; simp only [List.cons_append, List.nil_append, List.append_nil] at m; have M := Lib.hid m; clear m)
      )
    go_ret
    exact ⟨ret_int (by rw [HR.out, HQ.out]; rfl), M.out.take 0⟩
set_option maxRecDepth 100000 in
set_option maxHeartbeats 2000000 in
theorem pricesNil_any (g : Nat) {t : TypeId} (F : Fld) (hF : F.ok) (p : Prices) (hp : p.ok) (c : Cs) (hc : c.ok) (w : World) (hb : Blk w g t F.cells) :
    Calls Try.prog 41 #[.pointer (some ⟨g, 0, none⟩), .agg p.vals.toArray, .slice none 0 0, .agg c.cells] w fun e w' => e = .returned (.int .i64 (prCode F p [] c)) ∧ Mem w w' [] :=
  pricesCode_any g F hF p hp none 0 [] (fun _ h => absurd h (by simp)) (by simp) c hc w hb Sl.nil_
set_option maxRecDepth 100000 in
set_option maxHeartbeats 1000000 in
theorem l01Mask_any (c : Cs) (hc : c.ok) (w : World) :
    Calls Try.prog 59 #[.agg c.cells] w fun e w' => e = .returned (.agg c.cut.cells) ∧ Mem w w' [] := by
  have M := Lib.hid (Mem.start w)
  have hb1 := bits_and_u64_nat c.hi 68719476735 hc.h (by decide)
  have O1 := Lib.hid (Cs.one c.cut)
  have q0 : c.cells[0]? = some (.int .u64 c.lo) := rfl
  have q1 : c.cells[1]? = some (.int .u64 c.hi) := rfl
  rw [show ((68719476735 : Nat) : Int) = 68719476735 from rfl] at hb1
  go_enter Try.func59, Try.ntmps59
  go_wp2_with (first
    | ((with_reducible refine gate_dst (N := 1) rfl ?_); go_must (refine M.out.ev_new rfl (by first | (go_simp; done) | (go_simp; rfl)) ?_); intro g1 w1 m; simp only [List.cons_append, List.nil_append] at m; have M := Lib.hid m; clear m)
    | ((with_reducible refine gate_dst (N := 2) rfl ?_); go_must (refine M.out.ev_new rfl (by first | (go_simp; done) | (go_simp; rfl)) ?_); intro g2 w2 m; simp only [List.cons_append, List.nil_append] at m; have M := Lib.hid m; clear m)
    | ((with_reducible refine gate_dst (N := 4) rfl ?_); go_must (refine M.out.ev_ld 0 _ _ rfl rfl rfl Try.underlying30 rfl rfl (by first | assumption | rfl) ?_))
    | ((with_reducible refine gate_dst (N := 6) rfl ?_); go_must (refine M.out.ev_ld 0 _ _ rfl rfl rfl Try.underlying30 rfl rfl (by first | assumption | rfl) ?_))
    | ((with_reducible refine gate_store (x := .tmp 2) rfl ?_); go_must (refine M.out.ev_stw 1 _ _ _ rfl rfl rfl rfl _ rfl (by first | rfl | (simp only [S1.out]; rfl) | (simp only [S1.out, S2.out]; rfl) | (simp only [S3.out]; rfl) | (simp only [S1.out, S2.out, S3.out]; rfl)) (by first | exact sz39 | (rw [S1.out]; exact sz39) | (rw [S2.out]; exact sz39) | (rw [S3.out]; exact sz39)) (by first | exact ints_one _ _ | exact Fld.one _ | exact O1.out | exact Cs.one _ | rfl | (simp [Value.oneCell']; done)) rfl ?_); intro wn m; simp only [List.set_cons_succ, List.set_cons_zero, List.setIfInBounds_toArray] at m; have M := Lib.hid m; clear m)
    )
  exact ret_cell rfl (M.out.blk 1 rfl) Try.underlying39 rfl sz39 rfl ⟨rfl, M.out.take 0⟩
theorem prCode_0 {F : Fld} {p : Prices} {xs : List Net} {c : Cs} (h : prCode F p xs c = 0) : p.good = true ∧ ntCode F xs c = 0 := by
  unfold prCode at h
  split at h
  · rename_i hg
    exact ⟨hg, h⟩
  · cases h
theorem cut_all (c : Cs) : c.cut.all = c.all := all_congr' fun k hk => Cs.cut_has c hk
end Go.Proofs.Ytjkclggdaafmaaa
namespace Go.Proofs.Ytjkclggdaafmaaa
set_option linter.unusedSimpArgs false
set_option linter.unusedVariables false
open Go.RowKit

theorem nets1_mem {F : Fld} {x y h w0 i : Nat} {n : Net} : n ∈ nets1 F x y h w0 i ↔ n.fits F = true ∧ ∃ a, a < i ∧ n = ⟨(x : Nat), (y : Nat), (w0 + a : Nat), (h : Nat)⟩ := by
  simp only [nets1, List.mem_filter, List.mem_map, List.mem_range]
  constructor
  · rintro ⟨⟨a, ha, rfl⟩, hf⟩
    exact ⟨hf, a, ha, rfl⟩
  · rintro ⟨hf, a, ha, rfl⟩
    exact ⟨⟨a, ha, rfl⟩, hf⟩
theorem nets4_mem {F : Fld} {r d W H y : Nat} {n : Net} : n ∈ nets4 F r d W H y ↔ n.fits F = true ∧ ∃ b a j i, b < y ∧ a < r + 1 ∧ j < H ∧ i < W ∧ n = ⟨(a : Nat), (b : Nat), (r + 1 - a + i : Nat), (d + 1 - b + j : Nat)⟩ := by
  simp only [nets4, nets3, nets2, List.mem_flatMap, List.mem_range, nets1_mem]
  constructor
  · rintro ⟨b, hb, a, ha, j, hj, hf, i, hi, rfl⟩
    exact ⟨hf, b, a, j, i, hb, ha, hj, hi, rfl⟩
  · rintro ⟨hf, b, a, j, i, hb, ha, hj, hi, rfl⟩
    exact ⟨b, hb, a, ha, j, hj, hf, i, hi, rfl⟩
theorem netsAt_fits {F : Fld} {k : Nat} {n : Net} (h : n ∈ netsAt F k) : n.fits F = true := (nets4_mem.1 h).1
theorem netsAt_inside {F : Fld} {k : Nat} {n : Net} (h : n ∈ netsAt F k) : n.inside k = true := by
  obtain ⟨_, b, a, j, i, hb, ha, hj, hi, rfl⟩ := nets4_mem.1 h
  simp only [Net.inside, Bool.and_eq_true, inB_iff]
  omega
theorem netsAt_ne {F : Fld} (hv : F.valid = true) {k : Nat} (hk : k < 100) (hh : F.has k = true) (ht : (F.kind k == 3) = false) : netsAt F k ≠ [] := by
  obtain ⟨⟨wl, wu⟩, ⟨hl, hu⟩⟩ := Fld.valid_size hv
  obtain ⟨h1, h2⟩ := has_size hk hh
  refine List.ne_nil_of_mem (a := (⟨(k % 10 : Nat), (k / 10 : Nat), (k % 10 + 1 - k % 10 + 0 : Nat), (k / 10 + 1 - k / 10 + 0 : Nat)⟩ : Net)) (nets4_mem.2 ⟨?_, k / 10, k % 10, 0, 0, by omega, by omega, by omega, by omega, rfl⟩)
  refine Net.fits_yes (Net.plain_iff.2 ?_) ?_ ?_ fun j hj => ?_
  · dsimp only; omega
  · dsimp only; omega
  · dsimp only; omega
  · rcases Nat.decEq j k with hjk | hjk
    · rw [Bool.and_eq_false_iff]
      left
      rw [← Bool.not_eq_true]
      simp only [Net.inside, Bool.and_eq_true, inB_iff]
      omega
    · rw [hjk, ht, Bool.and_false]
def lenOf : Value → Nat | .slice _ n _ => n | _ => 0
theorem costs_1 (p : Prices) (n : Net) : costs p [n] = netCost p n := by simp [costs]
def costN (p : Prices) (n : Net) : Int := costs p [n]
/-- How many targets a net covers. -/
def cnt (left : Cs) (n : Net) : Nat := ((netSet n).both left).all.length
theorem cnt_pos {left : Cs} {n : Net} {k : Nat} (hk : k ∈ left.all) (hn : n.inside k = true) : 0 < cnt left n := by
  obtain ⟨k1, k2⟩ := mem_all.1 hk
  refine List.length_pos_of_mem (a := k) (mem_all.2 ⟨k1, ?_⟩)
  rw [Cs.both_has _ _ k1, netSet, pset_has _ k1, hn, k2]
  rfl
theorem cnt_le (left : Cs) (n : Net) : cnt left n ≤ 100 := Cs.below_len _ 100
theorem cnt_and (left : Cs) (n : Net) : ((netSet n).and left).all.length = cnt left n := by
  unfold cnt
  rw [all_congr' (a := (netSet n).and left) (b := (netSet n).both left) fun k hk => by rw [Cs.and_has, Cs.both_has _ _ hk]]
/-- The best net so far: itself, its cost, how many targets it covers (0 if there is none yet). -/
def gStep (p : Prices) (left : Cs) (s : Net × Int × Nat) (n : Net) : Net × Int × Nat :=
  if (decide (s.2.2 = 0) || decide (netCost p n * (s.2.2 : Int) < s.2.1 * (cnt left n : Int))) = true then (n, netCost p n, cnt left n) else s
def g0 : Net × Int × Nat := (⟨0, 0, 0, 0⟩, 0, 0)
def gTo (p : Prices) (left : Cs) (ns : List Net) (i : Nat) : Net × Int × Nat := (ns.take i).foldl (gStep p left) g0
theorem gTo_succ (p : Prices) (left : Cs) {ns : List Net} {i : Nat} (h : i < ns.length) : gTo p left ns (i + 1) = gStep p left (gTo p left ns i) ns[i] := by
  rw [gTo, List.take_succ_eq_append_getElem h, List.foldl_append]
  rfl
theorem gTo_mem (p : Prices) (left : Cs) {ns : List Net} (hc : ∀ n ∈ ns, 0 < cnt left n) : ∀ i, i ≤ ns.length → (i = 0 ∧ gTo p left ns i = g0) ∨ (0 < i ∧ ∃ n ∈ ns, gTo p left ns i = (n, netCost p n, cnt left n))
  | 0, _ => .inl ⟨rfl, rfl⟩
  | i + 1, h => by
    refine .inr ⟨by omega, ?_⟩
    rw [gTo_succ p left (by omega), gStep]
    have hm : ns[i] ∈ ns := List.getElem_mem _
    split
    · exact ⟨_, hm, rfl⟩
    · rename_i hh
      rcases gTo_mem p left hc i (by omega) with ⟨_, h0⟩ | ⟨_, n, hn, he⟩
      · exact absurd (by rw [h0]; rfl) hh
      · exact ⟨n, hn, he⟩
def gBest (p : Prices) (left : Cs) (ns : List Net) : Net := (gTo p left ns ns.length).1
/-- Nets taken one after the other, for the least target that is left. -/
def greedyFrom (F : Fld) (p : Prices) : Nat → Cs → List Net → List Net
  | 0, _, out => out
  | m + 1, left, out => match left.all with
    | [] => out
    | k :: _ => greedyFrom F p m (left.without (netSet (gBest p left (netsAt F k)))) (out ++ [gBest p left (netsAt F k)])
theorem less_cut {left : Cs} (h : ∀ k, 100 ≤ k → k < 128 → left.has k = false) (s : Cs) : left.less s = left.without s := by
  refine Cs.ext_has (Cs.less_ok _ _) (Cs.without_ok _ _) fun k hk => ?_
  rw [Cs.less_has _ _ hk]
  by_cases h1 : k < 100
  · rw [Cs.without_has _ _ h1]
  · rw [h k (by omega) hk]
    unfold Cs.without
    rw [Cs.cut_small _ (by omega) hk]
    rfl
theorem without_all (left s : Cs) : (left.without s).all = left.all.filter fun k => !s.has k := by
  unfold Cs.all Cs.below
  rw [List.filter_filter]
  refine List.filter_congr fun k hk => ?_
  rw [Cs.without_has _ _ (List.mem_range.1 hk), Bool.and_comm]
theorem without_lt {left s : Cs} {k : Nat} (hk : k ∈ left.all) (hs : s.has k = true) : (left.without s).all.length < left.all.length := by
  rw [without_all]
  exact List.length_filter_lt_length_iff_exists.2 ⟨k, hk, by rw [hs]; simp⟩
theorem without_cut (left s : Cs) : ∀ k, 100 ≤ k → k < 128 → (left.without s).has k = false := fun k h1 h2 => by
  unfold Cs.without
  exact Cs.cut_small _ h1 h2
/-- What the greedy walk keeps. -/
structure GOk (F : Fld) (p : Prices) (R : List Net) (left : Cs) (out : List Net) : Prop where
  ok : left.ok
  cut : ∀ k, 100 ≤ k → k < 128 → left.has k = false
  has : ∀ k ∈ left.all, F.has k = true
  bare : ∀ k ∈ left.all, (F.kind k == 3) = false
  fits : ∀ n ∈ out, n.fits F = true
  len : out.length + left.all.length ≤ 12
  res : ∃ m, left.all.length ≤ m ∧ greedyFrom F p m left out = R
theorem z_all : Cs.z.all = [] := by decide
theorem all_nil {left : Cs} (ho : left.ok) (h : ∀ k, 100 ≤ k → k < 128 → left.has k = false) (h0 : left.all = []) : left = Cs.z := by
  refine Cs.ext_has ho Cs.z_ok fun k hk => ?_
  rw [show Cs.z.has k = false by unfold Cs.has Cs.z; split <;> simp]
  by_cases h1 : k < 100
  · rw [← Bool.not_eq_true]
    intro hh
    have : k ∈ left.all := mem_all.2 ⟨h1, hh⟩
    rw [h0] at this
    cases this
  · exact h k (by omega) hk
theorem GOk.stop {F : Fld} {p : Prices} {R out : List Net} (h : GOk F p R Cs.z out) : out = R := by
  obtain ⟨m, _, he⟩ := h.res
  cases m with
  | zero => exact he
  | succ m =>
    rw [greedyFrom] at he
    simp only [z_all] at he
    exact he
theorem GOk.go {F : Fld} (hv : F.valid = true) {p : Prices} {R out : List Net} {left : Cs} (h : GOk F p R left out) (hz : left ≠ Cs.z) :
    ∃ k r, left.all = k :: r ∧ k < 100 ∧ F.has k = true ∧ netsAt F k ≠ [] ∧ (∀ n ∈ netsAt F k, n.snug ∧ 0 < cnt left n) ∧ gBest p left (netsAt F k) ∈ netsAt F k ∧
      GOk F p R (left.without (netSet (gBest p left (netsAt F k)))) (out ++ [gBest p left (netsAt F k)]) := by
  cases ha : left.all with
  | nil => exact absurd (all_nil h.ok h.cut ha) hz
  | cons k r =>
    have hm : k ∈ left.all := by rw [ha]; simp
    have k1 := (mem_all.1 hm).1
    have hne := netsAt_ne hv k1 (h.has k hm) (h.bare k hm)
    have hc : ∀ n ∈ netsAt F k, 0 < cnt left n := fun n hn => cnt_pos hm (netsAt_inside hn)
    have hb : gBest p left (netsAt F k) ∈ netsAt F k := by
      rcases gTo_mem p left hc (netsAt F k).length (Nat.le_refl _) with ⟨h0, _⟩ | ⟨_, n, hn, he⟩
      · exact absurd (List.length_eq_zero_iff.1 h0) hne
      · rw [gBest, he]
        exact hn
    have hlt : (left.without (netSet (gBest p left (netsAt F k)))).all.length < left.all.length := without_lt hm (by rw [netSet, pset_has _ k1]; exact netsAt_inside hb)
    have hsub : ∀ j ∈ (left.without (netSet (gBest p left (netsAt F k)))).all, j ∈ left.all := fun j hj => by
      rw [without_all] at hj
      exact (List.mem_filter.1 hj).1
    refine ⟨k, r, rfl, k1, h.has k hm, hne, fun n hn => ⟨Net.snug_of hv (netsAt_fits hn), hc n hn⟩, hb, Cs.without_ok _ _, without_cut _ _, fun j hj => h.has j (hsub j hj), fun j hj => h.bare j (hsub j hj), fun n hn => ?_, ?_, ?_⟩
    · rcases List.mem_append.1 hn with hn | hn
      · exact h.fits n hn
      · simp only [List.mem_singleton] at hn
        subst hn
        exact netsAt_fits hb
    · have := h.len
      rw [List.length_append, List.length_singleton]
      omega
    · obtain ⟨m, hm1, he⟩ := h.res
      cases m with
      | zero => rw [ha] at hm1; simp at hm1
      | succ m =>
        rw [greedyFrom, ha] at he
        exact ⟨m, by omega, he⟩
def gRes (F : Fld) (p : Prices) (c : Cs) : List Net := if prCode F p [] c = 0 then (if wood F c = true then [] else greedyFrom F p 12 c.cut []) else []
def gCode (F : Fld) (p : Prices) (c : Cs) : Int := if prCode F p [] c = 0 then (if wood F c = true then 4 else 0) else prCode F p [] c
theorem GOk.start {F : Fld} {p : Prices} {c : Cs} (hc : c.ok) (h0 : ntCode F [] c = 0) (hw : wood F c = false) : GOk F p (greedyFrom F p 12 c.cut []) c.cut [] := by
  obtain ⟨_, _, h12, hin⟩ := ntCode_0 h0
  refine ⟨Cs.cut_ok hc, fun k h1 h2 => Cs.cut_small _ h1 h2, ?_, ?_, fun n hn => (by simp at hn), ?_, 12, ?_, rfl⟩
  · rw [cut_all]
    exact hin
  · rw [cut_all]
    intro k hk
    rw [wood, List.any_eq_false] at hw
    rw [← Bool.not_eq_true]
    exact hw k hk
  · rw [cut_all, List.length_nil]
    omega
  · rw [cut_all]
    exact h12
theorem greedyFrom_ok {F : Fld} (hv : F.valid = true) {p : Prices} : ∀ (m : Nat) (left : Cs) (out R : List Net), GOk F p R left out → left.all.length ≤ m → (∀ n ∈ R, n.fits F = true) ∧ R.length ≤ 12
  | 0, left, out, R, h, hm => by
    have := all_nil h.ok h.cut (List.length_eq_zero_iff.1 (by omega))
    subst this
    have := h.stop
    subst this
    have := h.len
    exact ⟨h.fits, by omega⟩
  | m + 1, left, out, R, h, hm => by
    by_cases hz : left = Cs.z
    · subst hz
      have := h.stop
      subst this
      have := h.len
      exact ⟨h.fits, by omega⟩
    · obtain ⟨k, r, ha, k1, _, _, hn, hb, h'⟩ := h.go hv hz
      have hm2 : k ∈ left.all := by rw [ha]; simp
      have := without_lt hm2 (s := netSet (gBest p left (netsAt F k))) (by rw [netSet, pset_has _ k1]; exact netsAt_inside hb)
      exact greedyFrom_ok hv m _ _ R h' (by omega)
theorem gRes_ok {F : Fld} {p : Prices} {c : Cs} (hc : c.ok) : (∀ n ∈ gRes F p c, n.fits F = true) ∧ (gRes F p c).length ≤ 12 := by
  unfold gRes
  split
  · rename_i h0
    split
    · simp
    · rename_i hw
      have h1 := (prCode_0 h0).2
      have := GOk.start (p := p) hc h1 (by simpa using hw)
      exact greedyFrom_ok (netsOk_iff.1 (ntCode_0 h1).1).1 12 _ _ _ this (by rw [cut_all]; exact (ntCode_0 h1).2.2.1)
  · simp
end Go.Proofs.Ytjkclggdaafmaaa
