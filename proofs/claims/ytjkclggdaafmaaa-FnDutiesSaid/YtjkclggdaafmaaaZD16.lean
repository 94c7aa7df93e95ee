/- Texts of a proof, laid together: DutA, DrawF. -/
import Derived.Test.YtjkclggdaafmaaaZD02
import Derived.Test.YtjkclggdaafmaaaZD03
import Derived.Test.YtjkclggdaafmaaaZD09
import Derived.Test.YtjkclggdaafmaaaZD10
import Derived.Test.YtjkclggdaafmaaaZD15
import Derived.Test.YtjkclggdaafmaaaZD01
namespace Go.Proofs.Ytjkclggdaafmaaa
set_option linter.unusedSimpArgs false
set_option linter.unusedVariables false
open Go.RowKit
attribute [local go_sem] cell?_mk frozen?_mk
--ONES exact Cs.one _ | exact Net.one _ | exact Prices.one _

set_option maxRecDepth 100000 in
set_option maxHeartbeats 1000000 in
theorem A2Same_any (A B : Option Addr) (c d : Nat) (ks : List Int) (w : World) (hl : ks.length ≤ 1048576) (hx : Sl w 1 A ks.length (flat oneI ks)) (hy : Sl w 1 B ks.length (flat oneI ks)) :
    Calls Try.prog 23 #[.slice A ks.length c, .slice B ks.length d] w fun e w' => e = .returned (.bool true) ∧ Mem w w' [] := by
  have M := Lib.hid (Mem.start w)
  have HX := Lib.hid hx
  have HY := Lib.hid hy
  clear hx hy
  go_enter Try.func23, Try.ntmps23
  go_wp2_with (first
    | (go_at_call 64; go_must (refine (l00Same_any A B c d ks _ hl (M.out.sl HX.out) (M.out.sl HY.out)).mono ?_); rintro e w_ ⟨rfl, N_⟩; have m := M.out.join N_; clear N_; simp only [List.cons_append, List.nil_append, List.append_nil] at m; have M := Lib.hid m; clear m)
    )
  go_ret
  exact ⟨rfl, M.out⟩
set_option maxRecDepth 100000 in
set_option maxHeartbeats 1000000 in
theorem specListOf_any (c : Cs) (hc : c.ok) (w : World) :
    Calls Try.prog 22 #[.agg c.cells] w (RetRow w 2 1 c.all.length (flat one64 c.all)) := by
  have M := Lib.hid (Mem.start w)
  go_enter Try.func22, Try.ntmps22
  go_wp2_with (first
    | ((with_reducible refine gate_dst (N := 1) rfl ?_); go_must (refine M.out.ev_new rfl (by first | (go_simp; done) | (go_simp; rfl)) ?_); intro g1 w1 m; simp only [List.cons_append, List.nil_append] at m; have M := Lib.hid m; clear m)
    | (go_at_call 34; go_must (refine (l01List_any g1 c hc _ (M.out.blk 0 rfl)).mono ?_); rintro e w_ ⟨A_, c_, rfl, hc_, N_⟩; have m := M.out.join N_; clear N_; simp only [List.cons_append, List.nil_append, List.append_nil] at m; have M := Lib.hid m; clear m)
    )
  go_ret
  exact ⟨A_, c_, rfl, hc_, M.out.only [1] rfl (by decide)⟩
set_option maxRecDepth 100000 in
set_option maxHeartbeats 1000000 in
theorem specHasCell_any (c : Cs) (hc : c.ok) (k : Nat) (hk : k < 100) (w : World) :
    Calls Try.prog 30 #[.agg c.cells, .int .i64 k] w fun e w' => e = .returned (.bool (c.has k)) ∧ Mem w w' [] := by
  have M := Lib.hid (Mem.start w)
  go_enter Try.func30, Try.ntmps30
  go_wp2_with (first
    | ((with_reducible refine gate_dst (N := 2) rfl ?_); go_must (refine M.out.ev_new rfl (by first | (go_simp; done) | (go_simp; rfl)) ?_); intro g2 w2 m; simp only [List.cons_append, List.nil_append] at m; have M := Lib.hid m; clear m)
    | (go_at_call 71; go_must (refine (l01Has_any g2 c hc k hk _ (M.out.blk 0 rfl)).mono ?_); rintro e w_ ⟨rfl, rfl⟩)
    )
  go_ret
  exact ⟨rfl, M.out.take 0⟩
set_option maxRecDepth 100000 in
set_option maxHeartbeats 2000000 in
theorem iValidNet_any (F : Fld) (hF : F.ok) (hv : F.valid = true) (n : Net) (hx : n.ok) (hf : n.fits F = true) (w : World) :
    Calls Try.prog 69 #[.agg F.cells, .agg n.vals.toArray] w fun e w' => e = .returned (.bool true) ∧ Mem w w' [] := by
  have M := Lib.hid (Mem.start w)
  have S1 := Lib.hid (Fld.size hF.toLen)
  go_enter Try.func69, Try.ntmps69
  go_wp2_with (first
    | ((with_reducible refine gate_dst (N := 2) rfl ?_); go_must (refine M.out.ev_new rfl (by first | (go_simp; done) | (go_simp; rfl)) ?_); intro g2 w2 m; simp only [List.cons_append, List.nil_append] at m; have M := Lib.hid m; clear m)
    | ((with_reducible refine gate_dst (N := 3) rfl ?_); go_must (refine M.out.ev_new rfl (by first | (go_simp; done) | (go_simp; rfl)) ?_); intro g3 w3 m; simp only [List.cons_append, List.nil_append] at m; have M := Lib.hid m; clear m)
    | ((with_reducible refine gate_dst (N := 5) rfl ?_); go_must (refine M.out.ev_ldw 0 _ _ rfl rfl rfl Try.underlying35 rfl (by first | exact sz35 | (rw [S1.out]; exact sz35) | (rw [S2.out]; exact sz35) | (rw [S3.out]; exact sz35)) rfl ?_))
    | (go_at_call 90; go_must (refine (ValidField_any F hF _).mono ?_); rintro e w_ ⟨rfl, N_⟩; have m := M.out.join N_; clear N_; simp only [List.cons_append, List.nil_append, List.append_nil] at m; have M := Lib.hid m; clear m; rw [hv])
    | ((with_reducible refine gate_dst (N := 8) rfl ?_); refine gate_want rfl ?_; go_must (refine M.out.ev_ldw 1 _ _ rfl rfl rfl Try.underlying65 rfl sz65 rfl ?_))
    | (go_at_call 80; go_must (refine (isNet_any g2 F hF hv n hx _ (M.out.blk 0 rfl)).mono ?_); rintro e w_ ⟨rfl, N_⟩; have m := M.out.join N_; clear N_; simp only [List.cons_append, List.nil_append, List.append_nil] at m; have M := Lib.hid m; clear m; rw [hf])
    )
  go_ret
  exact ⟨rfl, M.out.take 0⟩
set_option maxRecDepth 100000 in
set_option maxHeartbeats 2000000 in
theorem CellsUnder_any (F : Fld) (hF : F.ok) (hv : F.valid = true) (n : Net) (hx : n.ok) (hf : n.fits F = true) (w : World) :
    Calls Try.prog 28 #[.agg F.cells, .agg n.vals.toArray] w fun e w' => e = .returned (.tuple #[.agg (netSet n).cells, .int .i64 0]) ∧ Mem w w' [] := by
  have M := Lib.hid (Mem.start w)
  have S1 := Lib.hid (Fld.size hF.toLen)
  obtain ⟨hp, hx1, hy1⟩ := Net.snug_of hv hf
  have O1 := Lib.hid (Cs.one (netSet n))
  go_enter Try.func28, Try.ntmps28
  go_wp2_with (first
    | ((with_reducible refine gate_dst (N := 2) rfl ?_); go_must (refine M.out.ev_new rfl (by first | (go_simp; done) | (go_simp; rfl)) ?_); intro g2 w2 m; simp only [List.cons_append, List.nil_append] at m; have M := Lib.hid m; clear m)
    | ((with_reducible refine gate_dst (N := 3) rfl ?_); go_must (refine M.out.ev_new rfl (by first | (go_simp; done) | (go_simp; rfl)) ?_); intro g3 w3 m; simp only [List.cons_append, List.nil_append] at m; have M := Lib.hid m; clear m)
    | ((with_reducible refine gate_dst (N := 4) rfl ?_); go_must (refine M.out.ev_new rfl (by first | (go_simp; done) | (go_simp; rfl)) ?_); intro g4 w4 m; simp only [List.cons_append, List.nil_append] at m; have M := Lib.hid m; clear m)
    | ((with_reducible refine gate_dst (N := 6) rfl ?_); go_must (refine M.out.ev_ldw 0 _ _ rfl rfl rfl Try.underlying35 rfl (by first | exact sz35 | (rw [S1.out]; exact sz35) | (rw [S2.out]; exact sz35) | (rw [S3.out]; exact sz35)) rfl ?_))
    | ((with_reducible refine gate_dst (N := 7) rfl ?_); go_must (refine M.out.ev_ldw 1 _ _ rfl rfl rfl Try.underlying65 rfl (by first | exact sz65 | (rw [S1.out]; exact sz65) | (rw [S2.out]; exact sz65) | (rw [S3.out]; exact sz65)) rfl ?_))
    | ((with_reducible refine gate_store (x := .tmp 4) rfl ?_); go_must (refine M.out.ev_stw 2 _ _ _ rfl rfl rfl rfl _ rfl (by first | rfl | (simp only [S1.out]; rfl) | (simp only [S1.out, S2.out]; rfl) | (simp only [S3.out]; rfl) | (simp only [S1.out, S2.out, S3.out]; rfl)) (by first | exact sz39 | (rw [S1.out]; exact sz39) | (rw [S2.out]; exact sz39) | (rw [S3.out]; exact sz39)) (by first | exact ints_one _ _ | exact Fld.one _ | exact O1.out | exact Cs.one _ | exact Net.one _ | exact Prices.one _ | rfl | (simp [Value.oneCell']; done)) rfl ?_); intro wn m; simp only [List.set_cons_succ, List.set_cons_zero, List.setIfInBounds_toArray] at m; have M := Lib.hid m; clear m)
    | ((with_reducible refine gate_dst (N := 11) rfl ?_); go_must (refine M.out.ev_ldw 1 _ _ rfl rfl rfl Try.underlying65 rfl (by first | exact sz65 | (rw [S1.out]; exact sz65) | (rw [S2.out]; exact sz65) | (rw [S3.out]; exact sz65)) rfl ?_))
    | ((with_reducible refine gate_store (x := .tmp 4) rfl ?_); go_must (refine M.out.ev_stw 2 _ _ _ rfl rfl rfl rfl _ rfl (by first | rfl | (simp only [S1.out]; rfl) | (simp only [S1.out, S2.out]; rfl) | (simp only [S3.out]; rfl) | (simp only [S1.out, S2.out, S3.out]; rfl)) (by first | exact sz39 | (rw [S1.out]; exact sz39) | (rw [S2.out]; exact sz39) | (rw [S3.out]; exact sz39)) (by first | exact ints_one _ _ | exact Fld.one _ | exact O1.out | exact Cs.one _ | exact Net.one _ | exact Prices.one _ | rfl | (simp [Value.oneCell']; done)) rfl ?_); intro wn m; simp only [List.set_cons_succ, List.set_cons_zero, List.setIfInBounds_toArray] at m; have M := Lib.hid m; clear m)
    | (go_at_call 69; go_must (refine (iValidNet_any F hF hv n hx hf _).mono ?_); rintro e w_ ⟨rfl, N_⟩; have m := M.out.join N_; clear N_; simp only [List.cons_append, List.nil_append, List.append_nil] at m; have M := Lib.hid m; clear m)
    | (go_at_call 46; go_must (refine (cellsN_any n hp hx1 hy1 _).mono ?_); rintro e w_ ⟨rfl, N_⟩; have m := M.out.join N_; clear N_; simp only [List.cons_append, List.nil_append, List.append_nil] at m; have M := Lib.hid m; clear m)
    )
  exact ret_ct rfl ((M.out.blk 2 rfl).var Try.underlying39 rfl sz39) ⟨rfl, M.out.take 0⟩
end Go.Proofs.Ytjkclggdaafmaaa
namespace Go.Proofs.Ytjkclggdaafmaaa
set_option linter.unusedSimpArgs false
set_option linter.unusedVariables false
open Go.RowKit
attribute [local go_sem] cell?_mk frozen?_mk
--ONES exact Fld.one _

section
variable {w0 w : World} {L : List Ent} {x : Ent}
/-- What was made last comes first. -/
theorem Mem.front (M : Mem w0 w (L ++ [x])) : Mem w0 w (x :: L) := by
  have key : ∀ (i : Nat) (y : Ent), (x :: L)[i]? = some y → ∃ j, (L ++ [x])[j]? = some y ∧ ((i = 0 ∧ j = L.length) ∨ (i = j + 1 ∧ j < L.length)) := by
    intro i y h
    cases i with
    | zero => exact ⟨L.length, by simpa using h, .inl ⟨rfl, rfl⟩⟩
    | succ i =>
      have h1 : L[i]? = some y := by simpa using h
      have h2 := (List.getElem?_eq_some_iff.1 h1).1
      exact ⟨i, by rw [List.getElem?_append_left h2]; exact h1, .inr ⟨rfl, h2⟩⟩
  refine ⟨M.below, fun i y h => ?_, fun i j y z hij hy hz => ?_⟩
  · obtain ⟨j, h1, _⟩ := key i y h
    exact M.all j y h1
  · obtain ⟨a, ha, ca⟩ := key i y hy
    obtain ⟨b, hb, cb⟩ := key j z hz
    exact M.sep a b y z (by omega) ha hb
theorem Mem.tail (M : Mem w0 w (x :: L)) : Mem w0 w L :=
  ⟨M.below, fun i y h => M.all (i + 1) y (by simpa using h), fun i j y z hij hy hz => M.sep (i + 1) (j + 1) y z (by omega) (by simpa using hy) (by simpa using hz)⟩
end
theorem Sl.atF {w : World} {b off : Nat} {ks : List Int} (h : Sl w 1 (some ⟨b, off, none⟩) ks.length (flat oneI ks)) {i : Nat} {j : Int} (hi : ks[i]? = some j) : w.cell? ⟨b, off + i, none⟩ = some (.int .i64 j) := by
  have hlt := (List.getElem?_eq_some_iff.1 hi).1
  obtain ⟨b1, o1, hB, hr⟩ := h.2 (by omega)
  cases hB
  have R := range_at oneI_len hr hi
  simpa using R 0 _ rfl
theorem among_nat {r : Int} {n : Nat} (h0 : 0 ≤ r) (h1 : r < (n : Int)) : ∃ q : Nat, r = (q : Int) ∧ q < n := by
  obtain ⟨q, hq⟩ := Int.eq_ofNat_of_zero_le h0
  exact ⟨q, hq, by omega⟩
theorem among_at {w : World} {B : Option Addr} {ks : List Int} (h : Sl w 1 B ks.length (flat oneI ks)) {i : Nat} (hi : i < ks.length) : ∃ b off y, B = some ⟨b, off, none⟩ ∧ w.cell? ⟨b, off + i, none⟩ = some (.int .i64 y) ∧ y ∈ ks := by
  obtain ⟨b, off, rfl, _⟩ := h.2 (by omega)
  exact ⟨b, off, _, rfl, h.atF (List.getElem?_eq_getElem hi), List.getElem_mem hi⟩
theorem sl_blkI {w : World} {g : Nat} {t : TypeId} {ys : List Int} (h : Blk w g t (flat oneI ys).toArray) : Sl w 1 (some ⟨g, 0, none⟩) ys.length (flat oneI ys) := by
  refine ⟨by rw [flat_len oneI_len, Nat.mul_one], fun _ => ⟨g, 0, rfl, fun j v hj => ?_⟩⟩
  rw [Nat.zero_add]
  exact h.cellv (by rw [List.getElem?_toArray]; exact hj)
theorem set_at {α : Type} {L : List α} {i : Nat} {x : α} (h : L[i]? = some x) (y : α) : (L.set i y)[i]? = some y := List.getElem?_set_self (List.getElem?_eq_some_iff.1 h).1
def Fld.withKind (F : Fld) (k : Nat) (x : Int) : Fld := { F with kinds := F.kinds.set k x }
theorem Fld.setKind {F : Fld} (h : F.len) {k : Nat} (hk : k < 100) (x : Int) : F.cells.setIfInBounds (2 + k) (.int .u8 x) = (F.withKind k x).cells := by
  have hl := h.kl
  rw [show 2 + k = k + 1 + 1 by omega]
  simp only [Fld.cells, Fld.list, Fld.withKind, List.setIfInBounds_toArray, List.set_cons_succ]
  rw [List.set_append, if_pos (by simp; omega), List.map_set]
theorem Fld.withKind_ok {F : Fld} (h : F.ok) (k : Nat) (x : Int) (hx : 0 ≤ x ∧ x ≤ 255) : (F.withKind k x).ok :=
  { toLen := ⟨by simp [Fld.withKind, h.kl], h.sl⟩, w0 := h.w0, w1 := h.w1, h0 := h.h0, h1 := h.h1, s0 := h.s0,
    k0 := fun y hy => by
      rcases List.mem_or_eq_of_mem_set hy with h1 | h1
      · exact h.k0 y h1
      · rw [h1]; exact hx }
theorem Fld.withSeed_okF {F : Fld} (h : F.ok) (k : Nat) (x : Int) (hx : -32768 ≤ x ∧ x ≤ 32767) : (F.withSeed k x).ok :=
  { toLen := Fld.withSeed_len h.toLen k x, w0 := h.w0, w1 := h.w1, h0 := h.h0, h1 := h.h1, k0 := h.k0,
    s0 := fun y hy => by
      rcases List.mem_or_eq_of_mem_set hy with h1 | h1
      · exact h.s0 y h1
      · rw [h1]; exact hx }
theorem Fld.kind_wk {F : Fld} (h : F.len) {k : Nat} (hk : k < 100) (x : Int) (j : Nat) : (F.withKind k x).kind j = if j = k then x else F.kind j := by
  have hl := h.kl
  show gi (F.kinds.set k x) j = _
  by_cases hjk : j = k
  · rw [if_pos hjk, hjk, gi_set_self (by omega)]
  · rw [if_neg hjk, gi_set_ne (fun e => hjk e.symm)]
    rfl
theorem Fld.seed_ws {F : Fld} (h : F.len) {k : Nat} (hk : k < 100) (x : Int) (j : Nat) : (F.withSeed k x).seed j = if j = k then x else F.seed j := by
  have hl := h.sl
  show gi (F.seeds.set k x) j = _
  by_cases hjk : j = k
  · rw [if_pos hjk, hjk, gi_set_self (by omega)]
  · rw [if_neg hjk, gi_set_ne (fun e => hjk e.symm)]
    rfl
theorem Fld.okAt_iff {F : Fld} {k : Nat} : F.okAt k = true ↔ (0 ≤ F.kind k ∧ F.kind k ≤ 3 ∧ 0 ≤ F.seed k ∧ F.seed k ≤ 1000 ∧ (F.kind k ≠ 0 → F.seed k = 0) ∧ (F.has k = false → F.kind k = 0 ∧ F.seed k = 0)) := by
  unfold Fld.okAt
  exact decide_eq_true_iff
/-- A field under way: the cells from k on are bare soil. -/
structure FDr (F : Fld) (k : Nat) : Prop where
  ok : F.ok
  w : 1 ≤ F.wide ∧ F.wide ≤ 5
  h : 1 ≤ F.high ∧ F.high ≤ 5
  at_ : ∀ j, j < 100 → F.okAt j = true
  s : ∀ j, F.seed j ≤ 11
  z : ∀ j, k ≤ j → F.kind j = 0 ∧ F.seed j = 0
theorem zs_gi (n j : Nat) : gi (zs n) j = 0 := by
  unfold gi zs
  rw [List.getD_eq_getElem?_getD]
  by_cases h : j < n
  · simp [h]
  · rw [List.getElem?_eq_none (by simp; omega)]
    rfl
theorem FDr.start {a b : Int} (ha : 0 ≤ a ∧ a < 5) (hb : 0 ≤ b ∧ b < 5) : FDr ⟨1 + a, 1 + b, zs 100, zs 100⟩ 0 := by
  have hz : ∀ y ∈ zs 100, y = 0 := fun y hy => by
    unfold zs at hy
    exact (List.mem_replicate.1 hy).2
  refine ⟨⟨⟨zs_len 100, zs_len 100⟩, ?_, ?_, ?_, ?_, fun y hy => by rw [hz y hy]; decide, fun y hy => by rw [hz y hy]; decide⟩, ⟨?_, ?_⟩, ⟨?_, ?_⟩, fun j _ => Fld.okAt_iff.2 ?_, fun j => ?_, fun j _ => ⟨zs_gi 100 j, zs_gi 100 j⟩⟩
  iterate 8 (first | (show _ ≤ 1 + _; omega) | (show 1 + _ ≤ _; omega))
  · rw [show Fld.kind ⟨1 + a, 1 + b, zs 100, zs 100⟩ j = 0 from zs_gi 100 j, show Fld.seed ⟨1 + a, 1 + b, zs 100, zs 100⟩ j = 0 from zs_gi 100 j]
    simp
  · rw [show Fld.seed ⟨1 + a, 1 + b, zs 100, zs 100⟩ j = 0 from zs_gi 100 j]
    decide
theorem FDr.valid {F : Fld} {k : Nat} (h : FDr F k) : F.valid = true :=
  Fld.valid_of (inB_iff.2 ⟨by have := h.w; omega, by have := h.w; omega⟩) (inB_iff.2 ⟨by have := h.h; omega, by have := h.h; omega⟩) h.at_
theorem FDr.skip {F : Fld} {k : Nat} (h : FDr F k) : FDr F (k + 1) := ⟨h.ok, h.w, h.h, h.at_, h.s, fun j hj => h.z j (by omega)⟩
theorem FDr.kind {F : Fld} {k : Nat} (h : FDr F k) (hk : k < 100) (hh : F.has k = true) {x : Int} (hx : 1 ≤ x ∧ x ≤ 3) : FDr (F.withKind k x) (k + 1) := by
  refine ⟨Fld.withKind_ok h.ok k x (by omega), h.w, h.h, fun j hj => ?_, h.s, fun j hj => ?_⟩
  · have h1 := Fld.okAt_iff.1 (h.at_ j hj)
    refine Fld.okAt_iff.2 ?_
    rw [Fld.kind_wk h.ok.toLen hk, show (F.withKind k x).seed j = F.seed j from rfl, show (F.withKind k x).has j = F.has j from rfl]
    by_cases hjk : j = k
    · subst hjk
      rw [if_pos rfl, (h.z j (Nat.le_refl _)).2, hh]
      exact ⟨by omega, by omega, by omega, by omega, fun _ => rfl, fun e => by cases e⟩
    · rw [if_neg hjk]
      exact h1
  · rw [Fld.kind_wk h.ok.toLen hk, if_neg (by omega)]
    exact h.z j (by omega)
theorem FDr.seed {F : Fld} {k : Nat} (h : FDr F k) (hk : k < 100) (hh : F.has k = true) {x : Int} (hx : 0 ≤ x ∧ x < 12) : FDr (F.withSeed k x) (k + 1) := by
  refine ⟨Fld.withSeed_okF h.ok k x (by omega), h.w, h.h, fun j hj => ?_, fun j => ?_, fun j hj => ?_⟩
  · have h1 := Fld.okAt_iff.1 (h.at_ j hj)
    refine Fld.okAt_iff.2 ?_
    rw [Fld.seed_ws h.ok.toLen hk, show (F.withSeed k x).kind j = F.kind j from rfl, show (F.withSeed k x).has j = F.has j from rfl]
    by_cases hjk : j = k
    · subst hjk
      rw [if_pos rfl, (h.z j (Nat.le_refl _)).1, hh]
      exact ⟨by omega, by omega, by omega, by omega, fun e => absurd rfl e, fun e => by cases e⟩
    · rw [if_neg hjk]
      exact h1
  · rw [Fld.seed_ws h.ok.toLen hk]
    split
    · omega
    · exact h.s j
  · rw [Fld.seed_ws h.ok.toLen hk, if_neg (by omega)]
    exact h.z j (by omega)
set_option maxRecDepth 100000 in
set_option maxHeartbeats 2000000 in
theorem one_any {w0 w : World} {L : List Ent} (i : Nat) (M0 : Mem w0 w L) (g : Nat) (A : Option Addr) (c : Nat) (bs : List Int) (hb : Bytes bs) (k : Nat) (hk : k ≤ 1000000000) (sd : Int) (hL : L[i]? = some (.blk g 134 (srcCells A bs.length c k sd))) (hs : Sl w0 1 A bs.length (flat oneB bs)) (n : Int) (hn : n ≤ 200) :
    Calls Try.prog 101 #[.pointer (some ⟨g, 0, none⟩), .int .i64 n] w fun e w' => ∃ b, e = .returned (.bool b) ∧ Drew w0 w' L i g A bs.length c k := by
  have M := Lib.hid M0
  have HS := Lib.hid hs
  have HL := Lib.hid hL
  have HB := Lib.hid hb
  have HSET := Lib.hid (fun (e : Ent) => set_at hL e)
  clear M0 hs hL hb
  go_enter Try.func101, Try.ntmps101
  go_wp2_with (first
    | (go_at_call 54; go_must (refine (pick_any i M.out g A c bs HB.out k (by omega) sd HL.out (M.out.sl HS.out) n hn).mono ?_); rintro e w_ ⟨r, rfl, hr0, hr1, k1, sd1, hk1, m⟩; have M := Lib.hid m; clear m)
    )
  all_goals
    go_ret
    exact ⟨_, rfl, k1, sd1, hk1, M.out⟩
set_option maxRecDepth 100000 in
set_option maxHeartbeats 2000000 in
theorem among_any {w0 w : World} {L : List Ent} (i : Nat) (M0 : Mem w0 w L) (g : Nat) (A : Option Addr) (c : Nat) (bs : List Int) (hb : Bytes bs) (k : Nat) (hk : k ≤ 1000000000) (sd : Int) (hL : L[i]? = some (.blk g 134 (srcCells A bs.length c k sd))) (hs : Sl w0 1 A bs.length (flat oneB bs)) (B : Option Addr) (nb : Nat) (ys : List Int) (h1 : 1 ≤ ys.length) (h2 : ys.length ≤ 200) (hR : ∀ (x : Ent) (w1 : World), Mem w0 w1 (L.set i x) → Sl w1 1 B ys.length (flat oneI ys)) :
    Calls Try.prog 53 #[.pointer (some ⟨g, 0, none⟩), .slice B ys.length nb] w fun e w' => ∃ y, e = .returned (.int .i64 y) ∧ y ∈ ys ∧ Drew w0 w' L i g A bs.length c k := by
  have M := Lib.hid M0
  have HS := Lib.hid hs
  have HL := Lib.hid hL
  have HB := Lib.hid hb
  have HSET := Lib.hid (fun (e : Ent) => set_at hL e)
  clear M0 hs hL hb
  have HR := Lib.hid hR
  have hmx : max (1 : Int) (ys.length : Int) = (ys.length : Int) := by omega
  clear hR
  go_enter Try.func53, Try.ntmps53
  go_wp2_with (first
    | (go_at_call 54; go_must (refine (pick_any i M.out g A c bs HB.out k (by omega) sd HL.out (M.out.sl HS.out) (ys.length : Int) (by omega)).mono ?_); rintro e w_ ⟨r, rfl, hr0, hr1, k1, sd1, hk1, m⟩; have M := Lib.hid m; clear m; rw [hmx] at hr1; obtain ⟨q, hq, hql⟩ := among_nat hr0 hr1; subst hq; obtain ⟨ob, ooff, y, rfl, x1, hy⟩ := among_at (HR.out _ _ M.out) hql; have YM := Lib.hid hy; clear hy)
    )
  go_ret
  exact ⟨_, rfl, YM.out, k1, sd1, hk1, M.out⟩
theorem szZ : Try.zeroCells35.size = 202 := by kernel_rfl
theorem drawn0 (x : Int) : (Try.zeroCells35).setIfInBounds 0 (.int .i8 x) = Fld.cells ⟨x, 0, zs 100, zs 100⟩ := by
  rw [zeroFld, Fld.set0]
  rfl
theorem drawn1 (x y : Int) : (Fld.cells ⟨x, 0, zs 100, zs 100⟩).setIfInBounds 1 (.int .i8 y) = Fld.cells ⟨x, y, zs 100, zs 100⟩ := by
  rw [Fld.set1]
set_option maxRecDepth 100000 in
set_option maxHeartbeats 8000000 in
theorem l01Drawn_any {w0 w : World} {L : List Ent} (i : Nat) (M0 : Mem w0 w L) (g : Nat) (A : Option Addr) (c : Nat) (bs : List Int) (hb : Bytes bs) (k : Nat) (hk : k ≤ 1000000) (sd : Int) (hL : L[i]? = some (.blk g 134 (srcCells A bs.length c k sd))) (hs : Sl w0 1 A bs.length (flat oneB bs)) :
    Calls Try.prog 85 #[.pointer (some ⟨g, 0, none⟩)] w fun e w' => ∃ F : Fld, e = .returned (.agg F.cells) ∧ FDr F 100 ∧ ∃ k' sd', k' ≤ k + 1000 ∧ Mem w0 w' (L.set i (.blk g 134 (srcCells A bs.length c k' sd'))) := by
  have M := Lib.hid M0
  have HS := Lib.hid hs
  have HL := Lib.hid hL
  have HB := Lib.hid hb
  have HSET := Lib.hid (fun (e : Ent) => set_at hL e)
  clear M0 hs hL hb
  go_enter Try.func85, Try.ntmps85
  go_wp2_with (first
    | ((with_reducible refine gate_dst (N := 2) rfl ?_); go_must (refine M.out.ev_new rfl (by first | (go_simp; done) | (go_simp; rfl)) ?_); intro g2 w2 m; have M := Lib.hid m.front; clear m)
    | (go_at_call 54; go_must (first | (refine Calls.mono (calls_args (by with_reducible rfl) (pick_any (i + 1) M.out g A c bs HB.out _ (by omega) _ HL.out (M.out.sl HS.out) 5 (by first | decide | omega))) ?_; rintro e w_ ⟨a, rfl, h0a, h1a, ka, sda, hka, m⟩; simp only [List.set_cons_succ, List.set_cons_zero, List.set_set] at m; have M := Lib.hid m; clear m; have ea : IntKind.i8.wrap (1 + a) = 1 + a := IntWalk.i8_in _ (by omega); have eb : IntKind.i64.wrap (1 + a) = 1 + a := IntWalk.i64_in _ (by omega)) | (refine Calls.mono (calls_args (by with_reducible rfl) (pick_any (i + 2) M.out g A c bs HB.out _ (by omega) _ (HSET.out _) (M.out.sl HS.out) 5 (by first | decide | omega))) ?_; rintro e w_ ⟨b, rfl, h0b, h1b, kb, sdb, hkb, m⟩; simp only [List.set_cons_succ, List.set_cons_zero, List.set_set] at m; have M := Lib.hid m; clear m; have ec : IntKind.i8.wrap (1 + b) = 1 + b := IntWalk.i8_in _ (by omega); have ed : IntKind.i64.wrap (1 + b) = 1 + b := IntWalk.i64_in _ (by omega))))
    | ((with_reducible refine gate_dst (N := 3) rfl ?_); go_must (refine M.out.ev_new rfl (by first | (go_simp; done) | (go_simp; rfl)) ?_); intro g3 w3 m; have M := Lib.hid m.front; clear m)
    | ((with_reducible refine gate_store (x := .tmp 3) rfl ?_); go_must (refine M.out.ev_stw 0 _ _ _ rfl rfl rfl rfl _ rfl (by rfl) sz35 (by rw [drawn0]; exact Fld.one _) rfl ?_); intro w3n m; rw [List.set_cons_zero, drawn0] at m; have M := Lib.hid m; clear m)
    | ((with_reducible refine gate_store (x := .tmp 14) rfl ?_); go_must (refine M.out.ev_put 0 _ _ _ rfl rfl rfl rfl (.int .i8 (1 + b)) rfl (Fld.lt1 _) sz22 rfl rfl ?_); intro wn m; simp only [List.set_cons_zero, drawn1] at m; have M := Lib.hid m; clear m)
    )
  go_loopw [4] (fun v wr => ∃ (n : Nat) (F : Fld) (k' : Nat) (sd' : Int), n ≤ 100 ∧ v = .int .i64 n ∧ FDr F n ∧ k' ≤ k + 4 + 4 * n ∧ Mem w0 wr (.blk g3 35 F.cells :: .blk g2 35 Try.zeroCells35 :: L.set i (.blk g 134 (srcCells A bs.length c k' sd'))))
    (fun v _ => 100 - (intOf v).toNat)
  case atStart => exact ⟨0, ⟨1 + a, 1 + b, zs 100, zs 100⟩, kb, sdb, by omega, rfl, FDr.start ⟨h0a, by omega⟩ ⟨h0b, by omega⟩, by omega, M.out⟩
  case round =>
    clear M ea eb ec ed
    obtain ⟨n, F, k', sd', hn, rfl, hF, hk', m⟩ := hrel
    have M := Lib.hid m
    have FD := Lib.hid hF
    have S1 := Lib.hid (Fld.size hF.ok.toLen)
    clear m hF
    by_cases hlt : n < 100
    · have i0 : (0 : Int) ≤ (n : Int) := by omega
      have i1 : (n : Int) < 100 := by omega
      have SZ1 := Lib.hid (show 2 + n < F.cells.size by rw [S1.out]; omega)
      have SZ2 := Lib.hid (show 102 + n < F.cells.size by rw [S1.out]; omega)
      cases hh : F.has n
      · have HH := Lib.hid hh
        clear hh
        go_wp2_with (first
          | (go_at_call 92; go_must (refine (l01Is_any g3 F FD.out.ok (n : Int) _ (M.out.blk 0 rfl)).mono ?_); rintro e w_ ⟨rfl, rfl⟩; rw [HH.out])
          )
        exact ⟨⟨n + 1, F, k', sd', by omega, by go_num, FD.out.skip, by omega, M.out⟩, by simp [intOf]; try omega⟩
      · have HH := Lib.hid hh
        have K1 := Lib.hid (fun x => Fld.setKind FD.out.ok.toLen hlt x)
        have K2 := Lib.hid (fun x => Fld.setSeed FD.out.ok.toLen n x)
        have KC := Lib.hid (Fld.cellK FD.out.ok.toLen hlt)
        have KS := Lib.hid (Fld.cellS FD.out.ok.toLen hlt)
        clear hh
        go_wp2_with (first
          | (go_at_call 92; go_must (refine (l01Is_any g3 F FD.out.ok (n : Int) _ (M.out.blk 0 rfl)).mono ?_); rintro e w_ ⟨rfl, rfl⟩; rw [HH.out])
          | (go_at_call 101; go_must (refine (one_any (i + 2) M.out g A c bs HB.out _ (by omega) _ (HSET.out _) HS.out 4 (by decide)).mono ?_); rintro e w_ ⟨bb, rfl, k5, sd5, hk5, m⟩; simp only [List.set_cons_succ, List.set_cons_zero, List.set_set] at m; have M := Lib.hid m; clear m; cases bb)
          | (go_at_call 54; go_must (first | (refine Calls.mono (calls_args (by with_reducible rfl) (pick_any (i + 2) M.out g A c bs HB.out _ (by omega) _ (HSET.out _) (M.out.sl HS.out) 3 (by first | decide | omega))) ?_; rintro e w_ ⟨q, rfl, h0q, h1q, kq, sdq, hkq, m⟩; simp only [List.set_cons_succ, List.set_cons_zero, List.set_set] at m; have M := Lib.hid m; clear m; have ea : IntKind.u8.wrap (1 + q) = 1 + q := IntWalk.u8_in _ (by omega); have eb : IntKind.i64.wrap (1 + q) = 1 + q := IntWalk.i64_in _ (by omega)) | (refine Calls.mono (calls_args (by with_reducible rfl) (pick_any (i + 2) M.out g A c bs HB.out _ (by omega) _ (HSET.out _) (M.out.sl HS.out) 12 (by first | decide | omega))) ?_; rintro e w_ ⟨d, rfl, h0d, h1d, kd, sdd, hkd, m⟩; simp only [List.set_cons_succ, List.set_cons_zero, List.set_set] at m; have M := Lib.hid m; clear m; have ec : IntKind.i16.wrap d = d := IntWalk.i16_in _ (by omega))))
          | ((with_reducible refine gate_store (x := .tmp 30) rfl ?_); go_must (refine M.out.ev_put 0 _ _ _ rfl rfl rfl rfl (.int .u8 (1 + q)) rfl SZ1.out sz5 rfl rfl ?_); intro wn m; simp only [List.set_cons_zero, K1.out] at m; have M := Lib.hid m; clear m)
          | ((with_reducible refine gate_store (x := .tmp 36) rfl ?_); go_must (refine M.out.ev_put 0 _ _ _ rfl rfl rfl rfl (.int .i16 d) rfl SZ2.out sz24 rfl rfl ?_); intro wn m; simp only [List.set_cons_zero, K2.out] at m; have M := Lib.hid m; clear m)
          )
        · exact ⟨⟨n + 1, _, _, _, by omega, by go_num, FD.out.seed hlt HH.out ⟨h0d, by omega⟩, by omega, M.out⟩, by simp [intOf]; try omega⟩
        · exact ⟨⟨n + 1, _, _, _, by omega, by go_num, FD.out.kind hlt HH.out ⟨by omega, by omega⟩, by omega, M.out⟩, by simp [intOf]; try omega⟩
    · obtain rfl : n = 100 := by omega
      have O1 := Lib.hid (Fld.one F)
      go_wp2_with (first
        | ((with_reducible refine gate_dst (N := 37) rfl ?_); go_must (refine M.out.ev_ldw 0 _ _ rfl rfl rfl Try.underlying35 rfl (by rw [S1.out]; exact sz35) rfl ?_))
        | ((with_reducible refine gate_store (x := .tmp 2) rfl ?_); go_must (refine M.out.ev_stw 1 _ _ _ rfl rfl rfl rfl _ rfl (by rw [S1.out]; exact szZ) (by rw [S1.out]; exact sz35) O1.out rfl ?_); intro wn m; simp only [List.set_cons_zero, List.set_cons_succ] at m; have M := Lib.hid m; clear m)
        )
      refine ret_cell rfl (M.out.blk 1 rfl) Try.underlying35 rfl (by rw [S1.out]; exact sz35) rfl ⟨F, rfl, FD.out, k', sd', by omega, M.out.tail.tail⟩
end Go.Proofs.Ytjkclggdaafmaaa
