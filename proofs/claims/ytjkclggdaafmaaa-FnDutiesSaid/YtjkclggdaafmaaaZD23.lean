/- Texts of a proof, laid together: U8, DutP. -/
import Derived.Test.YtjkclggdaafmaaaZD03
import Derived.Test.YtjkclggdaafmaaaZD02
import Derived.Test.YtjkclggdaafmaaaZD16
import Derived.Test.YtjkclggdaafmaaaZD17
import Derived.Test.YtjkclggdaafmaaaZD19
import Derived.Test.YtjkclggdaafmaaaZD20
import Derived.Test.YtjkclggdaafmaaaZD22
namespace Go.Proofs.Ytjkclggdaafmaaa
set_option linter.unusedSimpArgs false
set_option linter.unusedVariables false
open Go.RowKit

def U8.vals (x : Int) : List Value := oneB x
def U8.ok (x : Int) : Prop := 0 ≤ x ∧ x ≤ 255
def U8.ks : List IntKind := [.u8]
theorem U8.vl (x : Int) : (U8.vals x).length = 1 := rfl
theorem U8.of_conf (cs : List Value) (h : Conf U8.ks cs) : ∃ x : Int, U8.ok x ∧ U8.vals x = cs := by
  obtain ⟨e0, r, rfl, w0, h⟩ := h.cons
  obtain rfl := h.nil_eq
  exact ⟨e0, bounds_u8 w0, rfl⟩
theorem U8.bytes {bs : List Int} (h : ∀ x ∈ bs, U8.ok x) (hl : bs.length ≤ 4096) : Bytes bs := ⟨h, hl⟩
end Go.Proofs.Ytjkclggdaafmaaa
namespace Go.Proofs.Ytjkclggdaafmaaa
set_option linter.unusedSimpArgs false
set_option linter.unusedVariables false
open Go.RowKit
attribute [local go_sem] cell?_mk frozen?_mk

theorem tgt_code {F : Fld} (W : Wood F) {p : Prices} (hg : p.good = true) {s : Cs} (T : Tgt F s 5) : prCode F p [] s = 0 ∧ wood F s = false ∧ Aim F s.all := by
  have hlt : ∀ k ∈ s.all, k < 100 ∧ F.has k = true ∧ F.kind k ≠ 3 := fun k hk => T.in_ k (mem_all.1 hk).2
  have hb : ∀ k ∈ s.all, (F.kind k == 3) = false := fun k hk => by
    rw [beq_eq_false_iff_ne]
    exact (hlt k hk).2.2
  refine ⟨?_, ?_, fun k hk => (hlt k hk).1, fun k hk => (hlt k hk).2.1, hb⟩
  · have h0 : netsOk F [] = true := by rw [netsOk, W.valid]; rfl
    have h1 : (s.all.any fun k => !F.has k) = false := by
      rw [List.any_eq_false]
      intro k hk
      rw [(hlt k hk).2.1]
      decide
    have hl := T.len
    rw [prCode, if_pos hg, ntCode, if_pos h0, decide_eq_false (by simp), decide_eq_false (by omega), h1]
    rfl
  · rw [wood, List.any_eq_false]
    intro k hk
    rw [hb k hk]
    decide
theorem gi_aTo (ds : List Int) : ∀ i, 0 ≤ aTo ds i ∧ ∀ j, j < i → gi ds j ≤ aTo ds i
  | 0 => ⟨Int.le_refl 0, fun j hj => absurd hj (Nat.not_lt_zero _)⟩
  | i + 1 => by
    obtain ⟨h0, h1⟩ := gi_aTo ds i
    rw [aTo]
    refine ⟨by omega, fun j hj => ?_⟩
    rcases Nat.lt_or_ge j i with h2 | h2
    · have := h1 j h2
      omega
    · obtain rfl : j = i := by omega
      omega
theorem du_duties {F : Fld} (hv : F.valid = true) {p : Prices} (hg : p.good = true) {s : Cs} (A : Aim F s.all) (h5 : s.all.length ≤ 5) : (∀ i, 0 ≤ gi (duTo F p s.all s.all.length) i) ∧ ∀ i, gi (duTo F p s.all s.all.length) i ≤ 57753600 := by
  have h1 := (du_step hv hg A s.all.length (Nat.le_refl _)).1
  have h2 := duTo_b hv hg s.all s.all.length
  have h3 := duB_le (t := s.all.length) (by omega)
  refine ⟨h1, fun i => ?_⟩
  rcases Nat.lt_or_ge i (duTo F p s.all s.all.length).length with hi | hi
  · have := (gi_aTo (duTo F p s.all s.all.length) _).2 i hi
    omega
  · rw [gi_out hi]
    decide
/-- What the law of duties calls. -/
structure DutCalls (F : Fld) (p : Prices) (s : Cs) (D : List Int) (G : List Net) (B q : Int) : Prop where
  dl : D.length = s.all.length
  d0 : ∀ i, 0 ≤ gi D i
  d1 : ∀ i, gi D i ≤ 57753600
  bs : duS (gi D) D.length = B
  bq : B ≤ q
  gl : G.length ≤ s.all.length
  id : ∀ w, Calls Try.prog 17 #[.agg F.cells, .agg p.vals.toArray, .agg s.cells] w (RetRowC w 2 1 D.length (flat oneI D) 0)
  sd : ∀ w, Calls Try.prog 18 #[.agg F.cells, .agg p.vals.toArray, .agg s.cells] w (RetRowC w 2 1 D.length (flat oneI D) 0)
  cd : ∀ A n w, Sl w 1 A D.length (flat oneI D) → Calls Try.prog 19 #[.agg F.cells, .agg p.vals.toArray, .agg s.cells, .slice A D.length n] w fun e w' => e = .returned (.tuple #[.bool true, .int .i64 0]) ∧ Mem w w' []
  db : ∀ A n w, Sl w 1 A D.length (flat oneI D) → Calls Try.prog 20 #[.agg F.cells, .agg p.vals.toArray, .agg s.cells, .slice A D.length n] w fun e w' => e = .returned (.tuple #[.int .i64 B, .int .i64 0]) ∧ Mem w w' []
  cw : ∀ i, i < D.length → ∀ A n w, Sl w 1 A D.length (flat oneI (D.set i (gi D i + 1))) → Calls Try.prog 19 #[.agg F.cells, .agg p.vals.toArray, .agg s.cells, .slice A D.length n] w fun e w' => e = .returned (.tuple #[.bool false, .int .i64 0]) ∧ Mem w w' []
  dw : ∀ i, i < D.length → ∀ A n w, Sl w 1 A D.length (flat oneI (D.set i (gi D i + 1))) → Calls Try.prog 20 #[.agg F.cells, .agg p.vals.toArray, .agg s.cells, .slice A D.length n] w fun e w' => e = .returned (.tuple #[.int .i64 0, .int .i64 8]) ∧ Mem w w' []
  gr : ∀ w, Calls Try.prog 21 #[.agg F.cells, .agg p.vals.toArray, .agg s.cells] w (RetNI w G q 0)
  ch : ∃ R l z, (z = 0 → B ≤ l) ∧ ∀ w, Calls Try.prog 5 #[.agg F.cells, .agg p.vals.toArray, .agg s.cells, .int .i64 20000] w (RetNI w R l z)
  ia : ∀ k ∈ s.all, ∀ w, Calls Try.prog 25 #[.agg F.cells, .int .i64 k] w (RetRowC w 65 4 (netsAt F k).length (flat Net.vals (netsAt F k)) 0)
  sa : ∀ k ∈ s.all, ∀ w, Calls Try.prog 26 #[.agg F.cells, .int .i64 k] w (RetRowC w 65 4 (netsAt F k).length (flat Net.vals (netsAt F k)) 0)
  nl : ∀ k ∈ s.all, 0 < (netsAt F k).length ∧ (netsAt F k).length ≤ 10000
  cu : ∀ k ∈ s.all, ∀ x ∈ netsAt F k, ∀ w, Calls Try.prog 28 #[.agg F.cells, .agg x.vals.toArray] w fun e w' => e = .returned (.tuple #[.agg (netSet x).cells, .int .i64 0]) ∧ Mem w w' []
  co : ∀ k ∈ s.all, ∀ x ∈ netsAt F k, ∀ w, Calls Try.prog 29 #[.agg F.cells, .agg p.vals.toArray, .agg x.vals.toArray] w fun e w' => e = .returned (.tuple #[.int .i64 (netCost p x), .int .i64 0]) ∧ Mem w w' []
  fe : ∀ k ∈ s.all, ∀ x ∈ netsAt F k, dTo x s.all D D.length ≤ netCost p x
theorem ch_low {F : Fld} (W : Wood F) {p : Prices} (hg : p.good = true) {s : Cs} (T : Tgt F s 5) {b : Int} (hb : inB b 0 20000 = true) (hz : chCode F p s b = 0) :
    duS (gi (duTo F p s.all s.all.length)) s.all.length ≤ chLeast F p s b := by
  obtain ⟨hk, hw, A⟩ := tgt_code W hg T
  have h5 := T.len
  obtain ⟨B, rfl⟩ := Int.eq_ofNat_of_zero_le (inB_iff.1 hb).1
  obtain ⟨c1, c2⟩ := ch_end (F := F) (p := p) (c := s) (B := B) hk hb hw
  rcases hq : (seekAll F p s B).1 with _ | _
  · have := (c2 hq).1
    rw [hz] at this
    cases this
  · obtain ⟨_, _, e3⟩ := c1 hq
    obtain ⟨i1, i2, i3, _, _⟩ := seekAll_end hg (by omega) (fun k hk => netsAt_ne W.valid (A.lt k hk) (A.has k hk) (A.bare k hk)) hq
    rw [e3, i3]
    exact du_bound W.valid hg A i1 i2
set_option maxRecDepth 100000 in
set_option maxHeartbeats 1000000 in
theorem dutCalls {F : Fld} (W : Wood F) {p : Prices} (hp : p.ok) (hg : p.good = true) {s : Cs} (T : Tgt F s 5) :
    DutCalls F p s (duTo F p s.all s.all.length) (gRes F p s) (duS (gi (duTo F p s.all s.all.length)) (duTo F p s.all s.all.length).length) (costs p (gRes F p s)) := by
  obtain ⟨hk, hw, A⟩ := tgt_code W hg T
  have hl := duTo_len F p s.all s.all.length
  have h5 := T.len
  obtain ⟨b0, b1⟩ := du_duties W.valid hg A h5
  have HD : Duties (duTo F p s.all s.all.length) := ⟨fun i => ⟨b0 i, by have := b1 i; omega⟩⟩
  have hpd := pf_due W.valid hg A
  have e1 : duRes F p s = duTo F p s.all s.all.length := by rw [duRes, if_pos hk, hw]; rfl
  have e2 : gCode F p s = 0 := by rw [gCode, if_pos hk, hw]; rfl
  have hset : ∀ i, i < (duTo F p s.all s.all.length).length → Duties ((duTo F p s.all s.all.length).set i (gi (duTo F p s.all s.all.length) i + 1)) := fun i hi => ⟨fun j => by
    rw [du_set _ hi]
    have := b0 i
    have := b1 i
    have := b0 j
    have := b1 j
    split <;> omega⟩
  have hwr : ∀ i, i < (duTo F p s.all s.all.length).length → pfB F p s.all ((duTo F p s.all s.all.length).set i (gi (duTo F p s.all s.all.length) i + 1)) = false := fun i hi => pf_wrong W.valid hg A (by rw [hl] at hi; exact hi)
  have hall : ∀ k ∈ s.all, allRes F k = netsAt F k ∧ okCode F.valid (F.has k) = 0 := fun k hk => by
    have h1 := A.has k hk
    rw [allRes, okCode, W.valid, h1]
    exact ⟨rfl, rfl⟩
  have hfx : ∀ k ∈ s.all, ∀ x ∈ netsAt F k, x.fits F = true ∧ x.ok := fun k hk x hx => by
    have h1 := netsAt_fits hx
    obtain ⟨⟨a0, a1⟩, ⟨b0, b1⟩, ⟨c0, c1⟩, ⟨d0, d1⟩⟩ := Net.plain_iff.1 (Net.fits_plain h1)
    exact ⟨h1, by omega, by omega, by omega, by omega⟩
  obtain ⟨gc, gl⟩ := gRes_covers (p := p) T.ok hk hw
  exact {
    dl := hl
    d0 := b0
    d1 := b1
    bs := rfl
    bq := by rw [hl]; exact du_bound W.valid hg A (gRes_ok T.ok).1 gc
    gl := gl
    id := fun w => by have := impl_DutiesFor_any F W.ok p hp s T.ok w; rwa [e1, e2] at this
    sd := fun w => by have := spec_DutiesFor_any F W.ok p hp s T.ok w; rwa [e1, e2] at this
    cd := fun A' n w hs => by have := CheckDuties_any F W.ok p hp s T.ok hk A A' n _ HD (by omega) (by omega) w hs; rwa [hpd] at this
    db := fun A' n w hs => by have := DutyBound_any F W.ok p hp s T.ok hk A A' n _ HD (by omega) (by omega) w hs; rwa [hpd, if_pos rfl, if_pos rfl] at this
    cw := fun i hi A' n w hs => by
      have := CheckDuties_any F W.ok p hp s T.ok hk A A' n _ (hset i hi) (by rw [List.length_set]; omega) (by rw [List.length_set]; omega) w (by rw [List.length_set]; exact hs)
      rwa [hwr i hi, List.length_set] at this
    dw := fun i hi A' n w hs => by
      have := DutyBound_any F W.ok p hp s T.ok hk A A' n _ (hset i hi) (by rw [List.length_set]; omega) (by rw [List.length_set]; omega) w (by rw [List.length_set]; exact hs)
      rwa [hwr i hi, List.length_set, if_neg (by decide), if_neg (by decide)] at this
    gr := fun w => by have := spec_GreedyNets_any F W.ok p hp s T.ok w; rwa [e2] at this
    ch := ⟨chRes F p s 20000, chLeast F p s 20000, chCode F p s 20000, fun hz => by rw [hl]; exact ch_low W hg T (by decide) hz, fun w => spec_CheapestNets_any F W.ok p hp s T.ok 20000 w⟩
    ia := fun k hk w => by have := impl_AllNets_any F W.ok k w; rwa [(hall k hk).1, (hall k hk).2] at this
    sa := fun k hk w => by have := spec_AllNets_any F W.ok k w; rwa [(hall k hk).1, (hall k hk).2] at this
    nl := fun k hk => ⟨List.length_pos_iff.2 (netsAt_ne W.valid (A.lt k hk) (A.has k hk) (A.bare k hk)), netsAt_len W.valid (A.lt k hk)⟩
    cu := fun k hk x hx w => CellsUnder_any F W.ok W.valid x (hfx k hk x hx).2 (hfx k hk x hx).1 w
    co := fun k hk x hx w => by
      have h0 : netsOk F [x] = true := netsOk_iff.2 ⟨W.valid, fun n hn => by rw [List.mem_singleton.1 hn]; exact (hfx k hk x hx).1⟩
      have h1 : prCode F p [x] Cs.z = 0 := by rw [prCode, if_pos hg, ntCode_z, if_pos h0, if_neg (by simp)]
      have := impl_CostOfNet_any F W.ok p hp x (hfx k hk x hx).2 w
      rwa [costRes, if_pos h1, h1, costs_1] at this
    fe := fun k hk x hx => by
      rw [hl]
      exact (du_step W.valid hg A s.all.length (Nat.le_refl _)).2 x (netsAt_fits hx) }
/-- What the law calls at one of the targets. -/
structure DutAt (F : Fld) (p : Prices) (s : Cs) (D : List Int) (k : Nat) (ns : List Net) : Prop where
  n0 : 0 < ns.length
  n1 : ns.length ≤ 10000
  ia : ∀ w, Calls Try.prog 25 #[.agg F.cells, .int .i64 k] w (RetRowC w 65 4 ns.length (flat Net.vals ns) 0)
  sa : ∀ w, Calls Try.prog 26 #[.agg F.cells, .int .i64 k] w (RetRowC w 65 4 ns.length (flat Net.vals ns) 0)
  cu : ∀ x ∈ ns, ∀ w, Calls Try.prog 28 #[.agg F.cells, .agg x.vals.toArray] w fun e w' => e = .returned (.tuple #[.agg (netSet x).cells, .int .i64 0]) ∧ Mem w w' []
  co : ∀ x ∈ ns, ∀ w, Calls Try.prog 29 #[.agg F.cells, .agg p.vals.toArray, .agg x.vals.toArray] w fun e w' => e = .returned (.tuple #[.int .i64 (netCost p x), .int .i64 0]) ∧ Mem w w' []
  fe : ∀ x ∈ ns, dTo x s.all D D.length ≤ netCost p x
  in_ : ∀ x ∈ ns, (netSet x).has k = true
theorem dutAt {F : Fld} {p : Prices} {s : Cs} {D : List Int} {G : List Net} {B q : Int} (C : DutCalls F p s D G B q) {j : Nat} (hj : j < s.all.length) : ∃ k ns, s.all[j]? = some k ∧ k < 100 ∧ DutAt F p s D k ns := by
  have hm : s.all[j] ∈ s.all := List.getElem_mem hj
  have hlt := (mem_all.1 hm).1
  exact ⟨s.all[j], netsAt F s.all[j], List.getElem?_eq_getElem hj, hlt, (C.nl _ hm).1, (C.nl _ hm).2, C.ia _ hm, C.sa _ hm, C.cu _ hm, C.co _ hm, C.fe _ hm, fun x hx => by rw [netSet, pset_has _ hlt]; exact netsAt_inside hx⟩
theorem dut_all {F : Fld} (W : Wood F) {p : Prices} (hp : p.ok) (hg : p.good = true) {s : Cs} (T : Tgt F s 5) : ∃ D G B q, DutCalls F p s D G B q := ⟨_, _, _, _, dutCalls W hp hg T⟩
end Go.Proofs.Ytjkclggdaafmaaa
