/- Texts of a proof, laid together: ChoC, U8. -/
import Derived.Test.YtkomhngokcejbaaGreatDoorZV11
import Derived.Test.YtkomhngokcejbaaGreatDoorZV12
import Derived.Test.YtkomhngokcejbaaGreatDoorZV13
import Derived.Test.YtkomhngokcejbaaGreatDoorZV15
import Derived.Test.YtkomhngokcejbaaGreatDoorZV18
import Derived.Test.YtkomhngokcejbaaGreatDoorZV01
namespace Go.Proofs.YtkomhngokcejbaaGreatDoor
set_option linter.unusedSimpArgs false
set_option linter.unusedVariables false
open Go.RowKit

structure ChoF (F : Fld) (fs : List Int) (SF : Cs) (x : Flock) (CF : Cs) (ch cc : Int) : Prop where
  CFok : CF.ok
  cfI : ∀ w, Calls Tryz.prog 18 #[.agg F.cells, .agg (ints .i16 fs), .agg x.vals.toArray] w fun e w' => e = .returned (.tuple #[.agg CF.cells, .int .i64 0]) ∧ Mem w w' []
  cfS : ∀ w, Calls Tryz.prog 19 #[.agg F.cells, .agg (ints .i16 fs), .agg x.vals.toArray] w fun e w' => e = .returned (.tuple #[.agg CF.cells, .int .i64 0]) ∧ Mem w w' []
  chI : ∀ w, Calls Tryz.prog 20 #[.agg F.cells, .agg (ints .i16 fs), .agg x.vals.toArray] w fun e w' => e = .returned (.tuple #[.int .i64 ch, .int .i64 cc]) ∧ Mem w w' []
  chS : ∀ w, Calls Tryz.prog 21 #[.agg F.cells, .agg (ints .i16 fs), .agg x.vals.toArray] w fun e w' => e = .returned (.tuple #[.int .i64 ch, .int .i64 cc]) ∧ Mem w w' []
  out : ∀ k : Nat, k < 100 → F.has (k : Int) = false → CF.has k = false
  go : ∀ k : Nat, k < 100 → F.has (k : Int) = true → CF.has k = (decide (0 < F.seed k) && (decide (gi fs k ≤ x.bold) && decide (sq k x.tree ≤ x.reach)))
  free : ∀ k : Nat, k < 100 → CF.has k = true → SF.has k = false
  sqI : ∀ k : Nat, k < 100 → F.has (k : Int) = true → ∀ w, Calls Tryz.prog 25 #[.agg F.cells, .int .i64 k, .int .i64 x.tree] w fun e w' => e = .returned (.tuple #[.int .i64 (sq k x.tree), .int .i64 0]) ∧ Mem w w' []
  b : (0 ≤ x.tree ∧ x.tree ≤ 99) ∧ (0 ≤ x.bold ∧ x.bold ≤ 1000) ∧ (0 ≤ x.reach ∧ x.reach ≤ 200) ∧ (0 ≤ x.taste ∧ x.taste ≤ 2)
  tree : ∀ w, Calls Tryz.prog 27 #[.agg F.cells, .int .i64 x.tree] w fun e w' => e = .returned (.tuple #[.int .i64 x.tree, .int .i64 0]) ∧ Mem w w' []
  kase : (cc = 0 ∧ 0 < CF.all.length ∧ ∃ c : Nat, ch = c ∧ c < 100 ∧ CF.has c = true ∧
    (∀ w, Calls Tryz.prog 26 #[.agg F.cells, .int .i64 c, .int .i64 x.tree] w fun e w' => e = .returned (.tuple #[.int .i64 (sq c x.tree), .int .i64 0]) ∧ Mem w w' []) ∧
    ∀ k : Nat, k < 100 → CF.has k = true → (x.taste = 0 → F.seed k ≤ F.seed c) ∧ (x.taste = 1 → sq c x.tree ≤ sq k x.tree) ∧ (x.taste = 2 → gi fs c ≤ gi fs k)) ∨ (cc = 6 ∧ CF.all.length = 0)
theorem cho_one {F : Fld} (W : Wood F) {fs : List Int} (A : Afr F fs) {xs : List Flock} {x : Flock} (hm : x ∈ xs) (hx : Flk F x) : ∃ CF ch cc, ChoF F fs (leftOf F fs xs) x CF ch cc := by
  have hv := W.valid
  have hF := W.ok
  have hfi := hx.fine
  have hp := fine_plain hfi
  obtain ⟨⟨t0, t1⟩, _, _, bo, re, ta⟩ := Flock.plain_iff.1 hp
  obtain ⟨q, hq⟩ : ∃ q : Nat, x.tree = q := ⟨x.tree.toNat, (Int.toNat_of_nonneg t0).symm⟩
  have htr : F.has (q : Int) = true ∧ F.kind q = 3 := by
    simp only [Flock.fine, Fld.tree, Bool.and_eq_true, beq_iff_eq] at hfi
    rw [hq, Int.toNat_natCast] at hfi
    exact hfi.2
  have hb := birds_fine hv A.ok (xs := [x]) (fun y hy => by rw [List.mem_singleton.1 hy]; exact hfi) (by simp)
  have hbc : birdsCode F fs [x] = 0 := by rw [birdsCode, if_pos hb]
  have hgo : goRes F fs x = goSet F fs x := by rw [goRes, if_pos hb]
  have hall : ∀ k : Nat, k < 100 → (goSet F fs x).has k = (F.has (k : Int) && goP F fs x k) := fun k hk => goSet_has F fs x hk
  have hcc : chCode F fs x = if choiceOf F fs x < 0 then 6 else 0 := by rw [chCode, if_pos hb]
  have hch : chRes F fs x = if choiceOf F fs x < 0 then 0 else choiceOf F fs x := by rw [chRes, if_pos hb]
  have hmem : ∀ k, k ∈ (goSet F fs x).all ↔ k < 100 ∧ (goSet F fs x).has k = true := fun k => by
    simp [Cs.all, Cs.below]
  refine ⟨goSet F fs x, chRes F fs x, chCode F fs x, ⟨setOf_ok _ fun k hk => by have := (Fld.all_has (List.mem_filter.1 hk).1).1; omega, ?_, ?_, ?_, ?_, ?_, ?_, ?_, ?_, ⟨⟨t0, t1⟩, bo, re, ta⟩, ?_, ?_⟩⟩
  · intro w
    have := impl_CellsFor_any F hF fs A.len A.all x hx.ok w
    rwa [hgo, hbc] at this
  · intro w
    have := spec_CellsFor_any F hF fs A.len A.all x hx.ok w
    rwa [hgo, hbc] at this
  · exact fun w => impl_ChoiceOf_any F hF fs A.len A.all x hx.ok w
  · exact fun w => spec_ChoiceOf_any F hF fs A.len A.all x hx.ok w
  · intro k hk h
    rw [hall k hk, h]
    rfl
  · intro k hk h
    rw [hall k hk, h, Bool.true_and, goP]
  · intro k hk h
    rw [hall k hk] at h
    exact left_not hm hk h
  · intro k hk h w
    rw [hq]
    exact impl_SquareOf_any F hF hv k q hk (by omega) h htr.1 w
  · intro w
    rw [hq]
    exact TreeFor_any F hF hv q (by omega) htr.1 htr.2 w
  · rcases choice_of F fs x with h | ⟨c, h0, h1, h2⟩
    · right
      refine ⟨by rw [hcc, if_pos (by omega)], ?_⟩
      rw [List.length_eq_zero_iff, List.eq_nil_iff_forall_not_mem]
      intro k hk
      obtain ⟨k1, k2⟩ := (hmem k).1 hk
      rw [hall k k1] at k2
      have := (choice_least k1 k2).1
      omega
    · left
      refine ⟨by rw [hcc, if_neg (by omega)], ?_, c, by rw [hch, if_neg (by omega), h2], h0, by rw [hall c h0]; exact h1, ?_, ?_⟩
      · exact List.length_pos_of_mem ((hmem c).2 ⟨h0, by rw [hall c h0]; exact h1⟩)
      · intro w
        rw [hq]
        rw [Bool.and_eq_true] at h1
        exact spec_SquareOf_any F hF hv c q h0 (by omega) h1.1 htr.1 w
      · intro k hk h
        rw [hall k hk] at h
        have hl := (choice_least hk h).2
        rw [h2, Int.toNat_natCast] at hl
        exact ⟨fun ht => taste_seeds ht hl, fun ht => taste_near ht hl, fun ht => taste_calm (by omega) (by omega) hl⟩
structure ChoC (F : Fld) (fs : List Int) (xs : List Flock) (T : List UInt8) (SF : Cs) : Prop where
  SFok : SF.ok
  one : ∀ i (h : i < xs.length), ∃ CF ch cc, ChoF F fs SF xs[i] CF ch cc
  txt : ∀ A n w, Tab w → Sl w 6 A xs.length (flat Flock.vals xs) → Calls Tryz.prog 10 #[.slice A xs.length n] w fun e w' => e = .returned (.string ⟨T.toArray⟩) ∧ Mem w w' []
  read : ∀ w, Tabs w → Calls Tryz.prog 9 #[.string ⟨T.toArray⟩] w (RetRowC w 48 6 xs.length (flat Flock.vals xs) 0)
  sfI : ∀ A n w, Sl w 6 A xs.length (flat Flock.vals xs) → Calls Tryz.prog 11 #[.agg F.cells, .agg (ints .i16 fs), .slice A xs.length n] w fun e w' => e = .returned (.tuple #[.agg SF.cells, .int .i64 0]) ∧ Mem w w' []
  sfS : ∀ A n w, Sl w 6 A xs.length (flat Flock.vals xs) → Calls Tryz.prog 12 #[.agg F.cells, .agg (ints .i16 fs), .slice A xs.length n] w fun e w' => e = .returned (.tuple #[.agg SF.cells, .int .i64 0]) ∧ Mem w w' []
  vf : ∀ A n w, Sl w 6 A xs.length (flat Flock.vals xs) → Calls Tryz.prog 15 #[.agg F.cells, .slice A xs.length n] w fun e w' => e = .returned (.bool true) ∧ Mem w w' []
  va : ∀ w, Calls Tryz.prog 16 #[.agg F.cells, .agg (ints .i16 fs)] w fun e w' => e = .returned (.bool true) ∧ Mem w w' []
  vz : ∀ w, Calls Tryz.prog 16 #[.agg F.cells, .agg (ints .i16 (zs 100))] w fun e w' => e = .returned (.bool true) ∧ Mem w w' []
theorem fears_zero (F : Fld) : fearsOk F (zs 100) = true := by
  refine fearsOk_of fun j _ => ?_
  simp [fearAtOk, zs_gi, inB]
theorem cho_calls {F : Fld} (W : Wood F) {fs : List Int} (A : Afr F fs) {xs : List Flock} (hx : ∀ x ∈ xs, Flk F x) (h3 : xs.length ≤ 3) : ∃ T SF, ChoC F fs xs T SF := by
  have hv := W.valid
  have hF := W.ok
  have hfi : ∀ x ∈ xs, x.fine F = true := fun x h => (hx x h).fine
  have hok : ∀ x ∈ xs, x.ok := fun x h => (hx x h).ok
  have hb := birds_fine hv A.ok hfi (show xs.length ≤ 12 by omega)
  have e1 : sfRes F fs xs = leftOf F fs xs := by rw [sfRes, if_pos hb]
  have e2 : sfCode F fs xs = 0 := by rw [sfCode, if_pos hb]
  have hfo : flocksOk F xs = true := by
    rw [flocksOk, show (xs.all fun y => y.fine F) = true from List.all_eq_true.2 hfi, decide_eq_true (by omega)]
    rfl
  refine ⟨flocksT xs, leftOf F fs xs, (leftOf_ok F fs xs).1, ?_, ?_, ?_, ?_, ?_, ?_, ?_, ?_⟩
  · exact fun i h => cho_one W A (List.getElem_mem h) (hx _ (List.getElem_mem h))
  · exact fun B n w ht hs => impl_FlocksText_any B n xs hok (by omega) w ht hs
  · exact fun w ht => ReadFlocks_any xs hok (fun x h => fine_plain (hfi x h)) (by omega) w ht
  · intro B n w hs
    have := impl_SafeFrom_any F hF fs A.len A.all B n xs hok (by omega) w hs
    rwa [e1, e2] at this
  · intro B n w hs
    have := spec_SafeFrom_any F hF fs A.len A.all B n xs hok (by omega) w hs
    rwa [e1, e2] at this
  · intro B n w hs
    have := ValidFlocks_any F hF B n xs hok (by omega) w hs
    rwa [hv, hfo] at this
  · intro w
    have := ValidFears_any F hF fs A.len A.all w
    rwa [hv, A.ok] at this
  · intro w
    have := ValidFears_any F hF (zs 100) (zs_len 100) (fun x hx => by simp [zs] at hx; omega) w
    rwa [hv, fears_zero] at this
end Go.Proofs.YtkomhngokcejbaaGreatDoor
namespace Go.Proofs.YtkomhngokcejbaaGreatDoor
set_option linter.unusedSimpArgs false
set_option linter.unusedVariables false
open Go.RowKit

def U8.vals (x : Int) : List Value := oneB x
def U8.ok (x : Int) : Prop := 0 ≤ x ∧ x ≤ 255
def U8.ks : List IntKind := [.u8]
theorem U8.vl (x : Int) : (U8.vals x).length = 1 := rfl
theorem U8.of_conf (cs : List Value) (h : Conf U8.ks cs) : ∃ x : Int, U8.ok x ∧ U8.vals x = cs := by
  obtain ⟨e0, r, rfl, w0, h⟩ := h.cons
  obtain rfl := h.nil_eq
  exact ⟨e0, bounds_u8 w0, rfl⟩
theorem U8.bytes {bs : List Int} (h : ∀ x ∈ bs, U8.ok x) (hl : bs.length ≤ 4096) : Bytes bs := ⟨h, hl⟩
end Go.Proofs.YtkomhngokcejbaaGreatDoor
