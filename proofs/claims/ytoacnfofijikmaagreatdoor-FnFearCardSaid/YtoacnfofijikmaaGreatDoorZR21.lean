/- Texts of a proof, laid together: FearC, FearD, NeqF, U8. -/
import Derived.Test.YtoacnfofijikmaaGreatDoorZR13
import Derived.Test.YtoacnfofijikmaaGreatDoorZR14
import Derived.Test.YtoacnfofijikmaaGreatDoorZR17
import Derived.Test.YtoacnfofijikmaaGreatDoorZR19
import Derived.Test.YtoacnfofijikmaaGreatDoorZR20
import Derived.Test.YtoacnfofijikmaaGreatDoorZR08
import Derived.Test.YtoacnfofijikmaaGreatDoorZR00
import Derived.Laws.StructEq
import Derived.Test.YtoacnfofijikmaaGreatDoorZR06
import Derived.Test.YtoacnfofijikmaaGreatDoorZR01
namespace Go.Proofs.YtoacnfofijikmaaGreatDoor
set_option linter.unusedSimpArgs false
set_option linter.unusedVariables false
open Go.RowKit

/-- Scarecrows that lie in a slice. -/
def HoldS (w : World) (A : Option Addr) (n : Nat) (xs : List Scarecrow) : Prop := Sl w 3 A xs.length (flat Scarecrow.vals xs) ∧ xs.length ≤ n ∧ n ≤ 9223372036854775807 ∧ (A = none → n = 0)
theorem Mem.holdS {w0 w : World} {L : List Ent} (M : Mem w0 w L) (i : Nat) {A : Option Addr} {n : Nat} {T : TypeId} {xs : List Scarecrow} (h : L[i]? = some (.row (.slice A xs.length n) T 3 xs.length (flat Scarecrow.vals xs))) : HoldS w A n xs :=
  ⟨M.slof i h, (M.row_le i h).1, M.row_cap i h, M.row_none i h⟩
structure FearC (F : Fld) (xs : List Scarecrow) (c : Nat) (least : Int) (T : List UInt8) (MD : List Int) (SC : Cs) (dn : Nat) (us : List Nat) (lg : Int) : Prop where
  xl : xs.length ≤ 4
  MDl : MD.length = 100
  MDc : gi MD c = fearAt xs c
  MDb : ∀ k, 0 ≤ gi MD k ∧ gi MD k ≤ 1000
  fb : ∀ ys : List Scarecrow, (∀ y ∈ ys, y.plain = true) → 0 ≤ fearAt ys c ∧ fearAt ys c ≤ 1000
  less : fearAt (agedAll xs 3) c ≤ fearAt xs c
  most : ∀ k (h : k < xs.length), fearAt (xs.take (k + 1)) c = max (fearAt (xs.take k) c) (fearAt [xs[k]] c)
  SCok : SC.ok
  sc : ∀ k, k < 100 → SC.has k = ((F.has (k : Int) && (F.kind k == 0)) && decide (least ≤ gi MD k))
  dnB : dn ≤ 30
  dnl : ∀ k, k ≤ dn → decide (least ≤ fearAt (agedAll xs k) c) = decide (k < dn)
  lgB : 1 ≤ lg
  usl : us.length ≤ 4
  txt : ∀ A n w, Tab w → HoldS w A n xs → Calls Tryz.prog 10 #[.slice A xs.length n] w fun e w' => e = .returned (.string ⟨T.toArray⟩) ∧ Mem w w' []
  read : ∀ w, Tabs w → Calls Tryz.prog 9 #[.string ⟨T.toArray⟩] w (RetRowC w 60 3 xs.length (flat Scarecrow.vals xs) 0)
  vs : ∀ A n w, HoldS w A n xs → Calls Tryz.prog 21 #[.agg F.cells, .slice A xs.length n] w fun e w' => e = .returned (.bool true) ∧ Mem w w' []
  fI : ∀ A n w, HoldS w A n xs → Calls Tryz.prog 11 #[.agg F.cells, .slice A xs.length n, .int .i64 c] w fun e w' => e = .returned (.tuple #[.int .i64 (fearAt xs c), .int .i64 0]) ∧ Mem w w' []
  fS : ∀ A n w, HoldS w A n xs → Calls Tryz.prog 12 #[.agg F.cells, .slice A xs.length n, .int .i64 c] w fun e w' => e = .returned (.tuple #[.int .i64 (fearAt xs c), .int .i64 0]) ∧ Mem w w' []
  fA : ∀ (d : Nat) A n w, HoldS w A n (agedAll xs d) → Calls Tryz.prog 11 #[.agg F.cells, .slice A (agedAll xs d).length n, .int .i64 c] w fun e w' => e = .returned (.tuple #[.int .i64 (fearAt (agedAll xs d) c), .int .i64 0]) ∧ Mem w w' []
  f1 : ∀ i (h : i < xs.length) A n w, HoldS w A n [xs[i]] → Calls Tryz.prog 11 #[.agg F.cells, .slice A 1 n, .int .i64 c] w fun e w' => e = .returned (.tuple #[.int .i64 (fearAt [xs[i]] c), .int .i64 0]) ∧ Mem w w' []
  mI : ∀ A n w, HoldS w A n xs → Calls Tryz.prog 13 #[.agg F.cells, .slice A xs.length n] w fun e w' => e = .returned (.tuple #[.agg (ints .i16 MD), .int .i64 0]) ∧ Mem w w' []
  mS : ∀ A n w, HoldS w A n xs → Calls Tryz.prog 14 #[.agg F.cells, .slice A xs.length n] w fun e w' => e = .returned (.tuple #[.agg (ints .i16 MD), .int .i64 0]) ∧ Mem w w' []
  cI : ∀ A n w, HoldS w A n xs → Calls Tryz.prog 15 #[.agg F.cells, .slice A xs.length n, .int .i64 least] w fun e w' => e = .returned (.tuple #[.agg SC.cells, .int .i64 0]) ∧ Mem w w' []
  cS : ∀ A n w, HoldS w A n xs → Calls Tryz.prog 16 #[.agg F.cells, .slice A xs.length n, .int .i64 least] w fun e w' => e = .returned (.tuple #[.agg SC.cells, .int .i64 0]) ∧ Mem w w' []
  aI : ∀ (d : Nat), d ≤ 1000 → ∀ A n w, HoldS w A n xs → Calls Tryz.prog 17 #[.agg F.cells, .slice A xs.length n, .int .i64 d] w (RetRowC w 60 3 (agedAll xs d).length (flat Scarecrow.vals (agedAll xs d)) 0)
  aS : ∀ (d : Nat), d ≤ 1000 → ∀ A n w, HoldS w A n xs → Calls Tryz.prog 18 #[.agg F.cells, .slice A xs.length n, .int .i64 d] w (RetRowC w 60 3 (agedAll xs d).length (flat Scarecrow.vals (agedAll xs d)) 0)
  dI : ∀ A n w, HoldS w A n xs → Calls Tryz.prog 24 #[.agg F.cells, .slice A xs.length n, .int .i64 c, .int .i64 least] w fun e w' => e = .returned (.tuple #[.int .i64 dn, .int .i64 0]) ∧ Mem w w' []
  dS : ∀ A n w, HoldS w A n xs → Calls Tryz.prog 25 #[.agg F.cells, .slice A xs.length n, .int .i64 c, .int .i64 least] w fun e w' => e = .returned (.tuple #[.int .i64 dn, .int .i64 0]) ∧ Mem w w' []
  uI : ∀ A n w, HoldS w A n xs → Calls Tryz.prog 26 #[.agg F.cells, .slice A xs.length n, .int .i64 least] w (RetRowC w 2 1 us.length (flat one64 us) 0)
  uS : ∀ A n w, HoldS w A n xs → Calls Tryz.prog 27 #[.agg F.cells, .slice A xs.length n, .int .i64 least] w (RetRowC w 2 1 us.length (flat one64 us) 0)
  lI : ∀ A n w, HoldS w A n xs → Calls Tryz.prog 28 #[.agg F.cells, .slice A xs.length n, .agg SC.cells, .int .i64 least] w fun e w' => e = .returned (.tuple #[.int .i64 lg, .int .i64 0]) ∧ Mem w w' []
theorem leastDays_pos {xs : List Scarecrow} (hx : ∀ x ∈ xs, x.plain = true) {least : Int} (hl : 1 ≤ least) : ∀ (ks : List Nat) (d : Int), 1 ≤ d → (∀ k ∈ ks, least ≤ fearAt xs k) → 1 ≤ ks.foldl (fun (d : Int) (k : Nat) => min d (daysOf xs k least)) d
  | [], d, h, _ => h
  | k :: r, d, h, hk => by
    rw [List.foldl_cons]
    refine leastDays_pos hx hl r _ ?_ fun j hj => hk j (List.mem_cons_of_mem _ hj)
    have := daysOf_pos hx hl (hk k (by simp))
    omega
theorem fear_calls (F : Fld) (hF : FDr F 100) (xs : List Scarecrow) (hx : SDr F xs 4) (c : Nat) (hc : c < 100) (hh : F.has (c : Int) = true) (least : Int) (hl : 1 ≤ least) (hl2 : least ≤ 10) : ∃ T MD SC dn us lg, FearC F xs c least T MD SC dn us lg := by
  have hok := hF.ok
  have hv := hF.valid
  have hlen := hx.len
  have hx1 := hx.ok
  have hx2 := scOk_plain hx.sc
  have hcode : ∀ ys, scOk F ys = true → ∀ p, p = true → scCode F ys p = 0 := fun ys h p hp => by
    unfold scCode
    rw [hv, h, hp]
    rfl
  have hin : inB least 1 1000 = true := inB_iff.2 ⟨by omega, by omega⟩
  have hsc : safeCode F xs least = 0 := hcode xs hx.sc _ hin
  have hfm : fmCode F xs = 0 := by unfold fmCode; rw [hv, hx.sc]; rfl
  have hFM : fearMap F xs = fearsOf xs F.all := by unfold fearMap; rw [hv, hx.sc]; rfl
  have hgi : ∀ k, k < 100 → gi (fearMap F xs) k = if F.has (k : Int) = true then fearAt xs k else 0 := fun k hk => by
    rw [hFM]
    unfold fearsOf
    rw [fearsOf_at xs F.all (zs 100) k (zs_len 100) hk, zs_gi]
    have : k ∈ F.all ↔ F.has (k : Int) = true := by
      constructor
      · exact fun h => (Fld.all_has h).2
      · exact fun h => by simpa [Fld.all, Fld.below, hk] using h
    by_cases h : F.has (k : Int) = true
    · rw [if_pos (this.2 h), if_pos h]
    · rw [if_neg (fun e => h (this.1 e)), if_neg h]
  have hage : ∀ d : Nat, ∀ x ∈ agedAll xs d, x.ok := fun d x hx' => by
    unfold agedAll at hx'
    obtain ⟨y, hy, rfl⟩ := List.mem_map.1 hx'
    have h1 := Scarecrow.older_plain (hx2 y hy) (d := (d : Int)) (by omega)
    obtain ⟨h2, h3, h4⟩ := Scarecrow.plain_iff.1 h1
    exact ⟨by omega, by omega, by omega⟩
  have hal : ∀ d, (agedAll xs d).length = xs.length := fun d => by unfold agedAll; rw [List.length_map]
  have hfr : ∀ ys, scOk F ys = true → fearRes F ys c = (fearAt ys c, 0) := fun ys h => by
    unfold fearRes
    rw [if_pos (hcode ys h _ hh)]
  have hdn := daysOf_is hx2 (c := (c : Int)) hl
  refine ⟨scaresT xs, fearMap F xs, safeSet F xs least, daysOf xs c least, uselessTo F xs least xs.length, leastDays xs least (aims F (safeSet F xs least) 100), hlen, fearMap_len F xs, ?_, ?_, ?_, ?_, ?_, ?_, ?_, hdn.1, ?_, ?_, ?_, ?_, ?_, ?_, ?_, ?_, ?_, ?_, ?_, ?_, ?_, ?_, ?_, ?_, ?_, ?_, ?_, ?_, ?_⟩
  · rw [hgi c hc, if_pos hh]
  · intro k
    by_cases hk : k < 100
    · rw [hgi k hk]
      split
      · exact fearAt_b hx2 (by omega) (by omega)
      · exact ⟨by decide, by decide⟩
    · unfold gi
      rw [List.getD_eq_getElem?_getD, List.getElem?_eq_none (by rw [fearMap_len]; omega)]
      exact ⟨by decide, by decide⟩
  · exact fun ys hy => fearAt_b hy (by omega) (by omega)
  · have := fearAt_aged hx2 (c := (c : Int)) (by omega) (by omega) (d := 0) (e := 3) (by omega)
    rw [agedAll_0 hx2] at this
    exact this
  · exact fun k hk => fearAt_most hx2 (by omega) (by omega) k hk
  · exact setOf_ok _ fun k hk => by
      have := List.mem_filter.1 hk
      exact Nat.lt_trans (Fld.all_has this.1).1 (by decide)
  · intro k hk
    unfold safeSet
    rw [setOf_has, hgi k hk, Bool.eq_iff_iff]
    simp only [List.contains_iff_mem, List.mem_filter, safeP, Bool.and_eq_true, decide_eq_true_eq]
    have hmem : k ∈ F.all ↔ F.has (k : Int) = true := ⟨fun h => (Fld.all_has h).2, fun h => by simpa [Fld.all, Fld.below, hk] using h⟩
    rw [hmem]
    constructor
    · rintro ⟨h1, h2, h3⟩
      exact ⟨⟨h1, h2⟩, by rw [if_pos h1]; exact h3⟩
    · rintro ⟨⟨h1, h2⟩, h3⟩
      rw [if_pos h1] at h3
      exact ⟨h1, h2, h3⟩
  · intro k hk
    by_cases h : k < daysOf xs c least
    · rw [decide_eq_true h]
      exact hdn.2.1 k h
    · obtain rfl : k = daysOf xs c least := by omega
      rw [decide_eq_false (Nat.lt_irrefl _)]
      exact hdn.2.2
  · refine leastDays_pos hx2 hl _ 1000 (by decide) fun k hk => ?_
    obtain ⟨h1, h2⟩ := aims_lt hk
    unfold aimAt at h2
    simp only [Bool.and_eq_true] at h2
    have h3 := h2.2
    unfold safeSet at h3
    rw [setOf_has] at h3
    simp only [List.contains_iff_mem, List.mem_filter, safeP, Bool.and_eq_true, decide_eq_true_eq] at h3
    exact h3.2.2
  · unfold uselessTo
    have := List.length_filter_le (uselessAt F xs least) (List.range xs.length)
    rw [List.length_range] at this
    omega
  · exact fun A n w ht hs => impl_ScaresText_any A n xs hx1 (by omega) w ht hs.1
  · exact fun w ht => ReadScares_any xs hx1 hx2 (by omega) w ht
  · intro A n w hs
    have := ValidScares_any F hok A n xs hx1 hs.2.1 hs.2.2.1 w hs.1
    rwa [hv, hx.sc] at this
  · intro A n w hs
    have := impl_fear_any F hok A n xs hx1 (by omega) hs.2.1 hs.2.2.1 c w hs.1
    rwa [hfr xs hx.sc] at this
  · intro A n w hs
    have := spec_fear_any F hok A n xs hx1 (by omega) c w hs.1
    rwa [hfr xs hx.sc] at this
  · intro d A n w hs
    have := impl_fear_any F hok A n (agedAll xs d) (hage d) (by rw [hal]; omega) hs.2.1 hs.2.2.1 c w hs.1
    rwa [hfr _ (scOk_aged hx.sc d)] at this
  · intro i h A n w hs
    have := impl_fear_any F hok A n [xs[i]] (fun x hx' => by rw [List.mem_singleton.1 hx']; exact hx1 _ (List.getElem_mem h)) (by simp) hs.2.1 hs.2.2.1 c w hs.1
    rwa [hfr _ (scOk_one hx.sc h)] at this
  · intro A n w hs
    have := impl_fearMap_any F hok A n xs hx1 (by omega) hs.2.1 hs.2.2.1 w hs.1
    rwa [hfm] at this
  · intro A n w hs
    have := spec_fearMap_any F hok A n xs hx1 (by omega) w hs.1
    rwa [hfm] at this
  · intro A n w hs
    have := impl_SafeCells_any F hok A n xs hx1 (by omega) hs.2.1 hs.2.2.1 least w hs.1
    rwa [hsc, show safeRes F xs least = safeSet F xs least by unfold safeRes; rw [if_pos hsc]] at this
  · intro A n w hs
    have := spec_SafeCells_any F hok A n xs hx1 (by omega) hs.2.1 hs.2.2.1 least w hs.1
    rwa [hsc, show safeRes F xs least = safeSet F xs least by unfold safeRes; rw [if_pos hsc]] at this
  · intro d hd A n w hs
    have h0 := hcode xs hx.sc (inB (d : Int) 0 1000) (inB_iff.2 ⟨by omega, by omega⟩)
    have := impl_AgeScares_any F hok A n xs hx1 (by omega) hs.2.1 hs.2.2.1 hs.2.2.2 d w hs.1
    rwa [h0, show agedRes F xs d = agedAll xs d by unfold agedRes; rw [if_pos h0]; rfl] at this
  · intro d hd A n w hs
    have h0 := hcode xs hx.sc (inB (d : Int) 0 1000) (inB_iff.2 ⟨by omega, by omega⟩)
    have := spec_AgeScares_any F hok A n xs hx1 (by omega) hs.2.1 hs.2.2.1 hs.2.2.2 d w hs.1
    rwa [h0, show agedRes F xs d = agedAll xs d by unfold agedRes; rw [if_pos h0]; rfl] at this
  · intro A n w hs
    have h0 := hcode xs hx.sc (F.has (c : Int) && inB least 1 1000) (by rw [hh, hin]; rfl)
    have := impl_DaysSafe_any F hok A n xs hx1 (by omega) hs.2.1 hs.2.2.1 hs.2.2.2 c least w hs.1
    rwa [show daysRes F xs c least = ((daysOf xs c least : Int), 0) by unfold daysRes; rw [if_pos h0]] at this
  · intro A n w hs
    have h0 := hcode xs hx.sc (F.has (c : Int) && inB least 1 1000) (by rw [hh, hin]; rfl)
    have := spec_DaysSafe_any F hok A n xs hx1 (by omega) hs.2.1 hs.2.2.1 hs.2.2.2 c least w hs.1
    rwa [show daysRes F xs c least = ((daysOf xs c least : Int), 0) by unfold daysRes; rw [if_pos h0]] at this
  · intro A n w hs
    have := impl_UselessScares_any F hok A n xs hx1 (by omega) hs.2.1 hs.2.2.1 hs.2.2.2 least w hs.1
    rwa [hsc, show uselessRes F xs least = uselessTo F xs least xs.length by unfold uselessRes; rw [if_pos hsc]] at this
  · intro A n w hs
    have := spec_UselessScares_any F hok A n xs hx1 (by omega) hs.2.1 hs.2.2.1 hs.2.2.2 least w hs.1
    rwa [hsc, show uselessRes F xs least = uselessTo F xs least xs.length by unfold uselessRes; rw [if_pos hsc]] at this
  · intro A n w hs
    have hcs : (safeSet F xs least).ok := setOf_ok _ fun k hk => by
      have := List.mem_filter.1 hk
      exact Nat.lt_trans (Fld.all_has this.1).1 (by decide)
    have := impl_LongestSafe_any F hok A n xs hx1 (by omega) hs.2.1 hs.2.2.1 hs.2.2.2 (safeSet F xs least) hcs least w hs.1
    rwa [show longRes F xs (safeSet F xs least) least = (leastDays xs least (aims F (safeSet F xs least) 100), 0) by unfold longRes; rw [if_pos hsc]] at this
end Go.Proofs.YtoacnfofijikmaaGreatDoor
namespace Go.Proofs.YtoacnfofijikmaaGreatDoor
set_option linter.unusedSimpArgs false
set_option linter.unusedVariables false
open Go.RowKit

structure AddC (F : Fld) (xs : List Scarecrow) (c t : Nat) (R : List Scarecrow) (cd hi : Int) : Prop where
  Rl : R.length ≤ 5
  kase : (cd = 0 ∧ R.length = xs.length + 1 ∧ fearAt xs c ≤ hi) ∨ cd = 4
  aI : ∀ A n w, HoldS w A n xs → Calls Tryz.prog 30 #[.agg F.cells, .slice A xs.length n, .int .i64 t, .int .i64 20] w (RetRowC w 60 3 R.length (flat Scarecrow.vals R) cd)
  aS : ∀ A n w, HoldS w A n xs → Calls Tryz.prog 31 #[.agg F.cells, .slice A xs.length n, .int .i64 t, .int .i64 20] w (RetRowC w 60 3 R.length (flat Scarecrow.vals R) cd)
  hI : cd = 0 → ∀ A n w, HoldS w A n R → Calls Tryz.prog 11 #[.agg F.cells, .slice A R.length n, .int .i64 c] w fun e w' => e = .returned (.tuple #[.int .i64 hi, .int .i64 0]) ∧ Mem w w' []
  mv : ∀ i : Nat, i < xs.length → ∃ V : List Scarecrow, V.length ≤ 4 ∧ (cd = 0 → ∃ p, V[i]? = some ⟨t, p, 0⟩) ∧
    (∀ A n w, HoldS w A n xs → Calls Tryz.prog 32 #[.agg F.cells, .slice A xs.length n, .int .i64 i, .int .i64 t] w (RetRowC w 60 3 V.length (flat Scarecrow.vals V) cd)) ∧
    (∀ A n w, HoldS w A n xs → Calls Tryz.prog 33 #[.agg F.cells, .slice A xs.length n, .int .i64 i, .int .i64 t] w (RetRowC w 60 3 V.length (flat Scarecrow.vals V) cd))
theorem add_calls (F : Fld) (hF : FDr F 100) (xs : List Scarecrow) (hx : SDr F xs 4) (c : Nat) (hc : c < 100) (hh : F.has (c : Int) = true) (t : Nat) (ht : t < 100) (hth : F.has (t : Int) = true) : ∃ R cd hi, AddC F xs c t R cd hi := by
  have hok := hF.ok
  have hv := hF.valid
  have hlen := hx.len
  have hx1 := hx.ok
  have hx2 := scOk_plain hx.sc
  have hcode : ∀ ys, scOk F ys = true → ∀ p, p = true → scCode F ys p = 0 := fun ys h p hp => by
    unfold scCode
    rw [hv, h, hp]
    rfl
  have hfr : ∀ ys, scOk F ys = true → fearRes F ys c = (fearAt ys c, 0) := fun ys h => by
    unfold fearRes
    rw [if_pos (hcode ys h _ hh)]
  have hfine : addFine F t 20 = true := by unfold addFine; rw [hth]; decide
  have h0 := hcode xs hx.sc _ hfine
  have hm0 : ∀ i : Nat, i < xs.length → scCode F xs (moveFine F xs i t) = 0 := fun i hi => hcode xs hx.sc _ (by
    unfold moveFine
    rw [hth, inB_iff.2 ⟨by omega, by omega⟩]
    rfl)
  cases htk : taken F xs t with
  | false =>
    have hcd : addCode F xs t 20 = 0 := by
      unfold addCode
      rw [if_neg (by simp [h0]), Int.toNat_natCast, htk, if_neg (by simp), if_neg (by omega)]
    have hres : addRes F xs t 20 = xs ++ [⟨t, 20, 0⟩] := by unfold addRes; rw [if_pos hcd]
    have hR : SDr F (xs ++ [⟨t, 20, 0⟩]) 5 := by
      have := hx.add (by decide) ht hth htk (p := 19) (a := 0) (by decide) (by decide)
      exact this
    refine ⟨xs ++ [⟨t, 20, 0⟩], 0, fearAt (xs ++ [⟨t, 20, 0⟩]) c, hR.len, .inl ⟨rfl, by simp, fearAt_more xs _ c⟩, ?_, ?_, ?_, ?_⟩
    · intro A n w hs
      have := impl_AddScare_any F hok A n xs hx1 (by omega) hs.2.1 hs.2.2.1 hs.2.2.2 t 20 w hs.1
      rwa [hcd, hres] at this
    · intro A n w hs
      have := spec_AddScare_any F hok A n xs hx1 (by omega) hs.2.1 hs.2.2.1 hs.2.2.2 t 20 w hs.1
      rwa [hcd, hres] at this
    · intro _ A n w hs
      have hl := hR.len
      have := impl_fear_any F hok A n (xs ++ [⟨t, 20, 0⟩]) hR.ok (by omega) hs.2.1 hs.2.2.1 c w hs.1
      rwa [hfr _ hR.sc] at this
    · intro i hi
      have hmc : moveCode F xs i t = 0 := by
        unfold moveCode
        rw [if_neg (by simp [hm0 i hi]), Int.toNat_natCast, htk, if_neg (by simp)]
      have hmr : moveRes F xs i t = movedAt xs i t := by unfold moveRes; rw [if_pos hmc, Int.toNat_natCast]
      refine ⟨movedAt xs i t, by rw [movedAt_len]; exact hlen, fun _ => ⟨xs[i].power, ?_⟩, ?_, ?_⟩
      · unfold movedAt
        rw [List.getElem?_eq_getElem hi]
        simp only
        rw [List.getElem?_set_self hi]
      · intro A n w hs
        have := impl_MoveScare_any F hok A n xs hx1 (by omega) hs.2.1 hs.2.2.1 hs.2.2.2 i t w hs.1
        rwa [hmc, hmr] at this
      · intro A n w hs
        have := spec_MoveScare_any F hok A n xs hx1 (by omega) hs.2.1 hs.2.2.1 hs.2.2.2 i t w hs.1
        rwa [hmc, hmr] at this
  | true =>
    have hcd : addCode F xs t 20 = 4 := by
      unfold addCode
      rw [if_neg (by simp [h0]), Int.toNat_natCast, htk, if_pos rfl]
    have hres : addRes F xs t 20 = [] := by unfold addRes; rw [hcd]; rfl
    refine ⟨[], 4, 0, by simp, .inr rfl, ?_, ?_, (fun h => by cases h), ?_⟩
    · intro A n w hs
      have := impl_AddScare_any F hok A n xs hx1 (by omega) hs.2.1 hs.2.2.1 hs.2.2.2 t 20 w hs.1
      rwa [hcd, hres] at this
    · intro A n w hs
      have := spec_AddScare_any F hok A n xs hx1 (by omega) hs.2.1 hs.2.2.1 hs.2.2.2 t 20 w hs.1
      rwa [hcd, hres] at this
    · intro i hi
      have hmc : moveCode F xs i t = 4 := by
        unfold moveCode
        rw [if_neg (by simp [hm0 i hi]), Int.toNat_natCast, htk, if_pos rfl]
      have hmr : moveRes F xs i t = [] := by unfold moveRes; rw [hmc]; rfl
      refine ⟨[], by simp, (fun h => by cases h), ?_, ?_⟩
      · intro A n w hs
        have := impl_MoveScare_any F hok A n xs hx1 (by omega) hs.2.1 hs.2.2.1 hs.2.2.2 i t w hs.1
        rwa [hmc, hmr] at this
      · intro A n w hs
        have := spec_MoveScare_any F hok A n xs hx1 (by omega) hs.2.1 hs.2.2.1 hs.2.2.2 i t w hs.1
        rwa [hmc, hmr] at this
end Go.Proofs.YtoacnfofijikmaaGreatDoor
namespace Go.Proofs.YtoacnfofijikmaaGreatDoor
set_option linter.unusedSimpArgs false
set_option linter.unusedVariables false
open Go.RowKit
theorem run_eqArr {P : Program} (d : Nat) (t e : TypeId) (n : Nat) (k : IntKind) (l : List Int) (hl : l.length = n) (hu : P.underlying t = some (.array n e)) (he : P.underlying e = some (.int k)) (ha : ∀ w, Sem.run P (isAgg e) w = .ok false w) (hz : ∀ w, Sem.run P (sizeOf e) w = .ok 1 w) (w : World) :
    (Op.equalIn (d + 2) t (.agg (ints k l)) (.agg (ints k l))).run P w = .ok true w := by
  have key : ∀ m s, s + m ≤ n → Sem.run P (forIn (List.range' s m) ((none, ()) : Option Bool × Unit) fun i _ => do
      let a ← part e (ints k l) (i * 1)
      let b ← part e (ints k l) (i * 1)
      let c ← Op.equalIn (d + 1) e a b
      if (!c) = true then pure (ForInStep.done (some false, ())) else pure (ForInStep.yield (none, ()))) w = .ok (none, ()) w := by
    intro m
    induction m with
    | zero => intro s _; simp
    | succ m ih =>
      intro s hs
      have x0 : (ints k l)[s * 1]? = some (.int k (gi l s)) := by rw [Nat.mul_one]; exact ints_at (by omega)
      rw [List.range'_succ, List.forIn_cons]
      have hp : Sem.run P (part e (ints k l) (s * 1)) w = .ok (.int k (gi l s)) w := by
        unfold part
        simp only [Sem.run_bind, ha, Result.andThen_ok, Bool.false_eq_true, if_false, x0, Sem.run_pure]
      simp only [Sem.run_bind, hp, Result.andThen_ok, run_equalIn_int _ d e k k _ _ he, beq_self_eq_true, Bool.not_true, Bool.false_eq_true, if_false, Sem.run_pure]
      exact ih (s + 1) (by omega)
  rw [Op.equalIn]
  simp only [Sem.run_bind, run_underlying hu, Result.andThen_ok]
  simp only [Std.Legacy.Range.forIn_eq_forIn_range', Std.Legacy.Range.size, Nat.sub_zero, Nat.add_sub_cancel, Nat.div_one, hz, Result.andThen_ok]
  rw [key n 0 (by omega)]
  rfl
end Go.Proofs.YtoacnfofijikmaaGreatDoor
namespace Go.Proofs.YtoacnfofijikmaaGreatDoor
set_option linter.unusedSimpArgs false
set_option linter.unusedVariables false
open Go.RowKit

def U8.vals (x : Int) : List Value := oneB x
def U8.ok (x : Int) : Prop := 0 ≤ x ∧ x ≤ 255
def U8.ks : List IntKind := [.u8]
theorem U8.vl (x : Int) : (U8.vals x).length = 1 := rfl
theorem U8.of_conf (cs : List Value) (h : Conf U8.ks cs) : ∃ x : Int, U8.ok x ∧ U8.vals x = cs := by
  obtain ⟨e0, r, rfl, w0, h⟩ := h.cons
  obtain rfl := h.nil_eq
  exact ⟨e0, bounds_u8 w0, rfl⟩
theorem U8.bytes {bs : List Int} (h : ∀ x ∈ bs, U8.ok x) (hl : bs.length ≤ 4096) : Bytes bs := ⟨h, hl⟩
end Go.Proofs.YtoacnfofijikmaaGreatDoor
