/- A diary made from its begin to its end, or to the first wrong entry. -/
import Derived.Test.YteecfclccfhdhaaDiary2
namespace Go.Proofs.Yteecfclccfhdhaa
set_option linter.unusedSimpArgs false
set_option linter.unusedVariables false
open Go.RowKit
attribute [local go_sem] cell?_mk frozen?_mk

/-! ### Plain -/
/-- The field behind entries, each of them made. -/
def Fld.thru (F : Fld) (xs : List Entry) : Fld := xs.foldl Fld.made F
theorem Fld.thru_snoc (F : Fld) (xs : List Entry) (x : Entry) : F.thru (xs ++ [x]) = (F.thru xs).made x := by simp [Fld.thru]
/-- The sums of the amounts of the four kinds. -/
def addTo (S : List Int) (x : Entry) : List Int := S.set x.what.toNat (gi S x.what.toNat + x.amount)
def sumsOf (xs : List Entry) : List Int := xs.foldl addTo (zs 4)
theorem sumsOf_snoc (xs : List Entry) (x : Entry) : sumsOf (xs ++ [x]) = addTo (sumsOf xs) x := by simp [sumsOf]
theorem addTo_len (S : List Int) (x : Entry) : (addTo S x).length = S.length := by simp [addTo]
theorem sumsOf_len (xs : List Entry) : (sumsOf xs).length = 4 := by
  have : ∀ (xs : List Entry) (S : List Int), (xs.foldl addTo S).length = S.length := by
    intro xs
    induction xs with
    | nil => intro S; rfl
    | cons x r ih => intro S; rw [List.foldl_cons, ih, addTo_len]
  rw [sumsOf, this, zs_len]
/-- All entries of a diary up to the k-th can be made. -/
def fine (F : Fld) (xs : List Entry) (k : Nat) : Prop := ∀ j, j < k → ∀ x, xs[j]? = some x → (F.thru (xs.take j)).code x = 0
/-- The first wrong entry, and its code. -/
def firstBad : Fld → List Entry → Option (Nat × Int)
  | _, [] => none
  | F, x :: r => if F.code x ≠ 0 then some (0, F.code x) else (firstBad (F.made x) r).map fun p => (p.1 + 1, p.2)
theorem firstBad_some : ∀ (xs : List Entry) (F : Fld) (k : Nat) (x : Entry), fine F xs k → xs[k]? = some x → (F.thru (xs.take k)).code x ≠ 0 → firstBad F xs = some (k, (F.thru (xs.take k)).code x)
  | [], F, k, x, _, hx, _ => by simp at hx
  | y :: r, F, 0, x, _, hx, hc => by
    simp only [List.getElem?_cons_zero, Option.some.injEq] at hx
    subst hx
    simp only [List.take_zero, Fld.thru, List.foldl_nil] at hc ⊢
    simp only [firstBad]
    rw [if_pos hc]
  | y :: r, F, k + 1, x, hf, hx, hc => by
    have h0 : F.code y = 0 := by simpa [Fld.thru] using hf 0 (by omega) y (by simp)
    have ih := firstBad_some r (F.made y) k x (fun j hj z hz => by
      have := hf (j + 1) (by omega) z (by simpa using hz)
      simpa [Fld.thru] using this) (by simpa using hx) (by simpa [Fld.thru] using hc)
    simp only [firstBad]
    rw [if_neg (by simpa using h0), ih]
    simp [Fld.thru]
theorem firstBad_none : ∀ (xs : List Entry) (F : Fld), fine F xs xs.length → firstBad F xs = none
  | [], F, _ => rfl
  | y :: r, F, hf => by
    have h0 : F.code y = 0 := by simpa [Fld.thru] using hf 0 (by simp) y (by simp)
    have ih := firstBad_none r (F.made y) (fun j hj z hz => by
      have := hf (j + 1) (by simp; omega) z (by simpa using hz)
      simpa [Fld.thru] using this)
    simp only [firstBad]
    rw [if_neg (by simpa using h0), ih]
    rfl
theorem fine_succ {F : Fld} {xs : List Entry} {k : Nat} {x : Entry} (h : fine F xs k) (hx : xs[k]? = some x) (hc : (F.thru (xs.take k)).code x = 0) : fine F xs (k + 1) := by
  intro j hj y hy
  rcases Nat.lt_or_ge j k with h1 | h1
  · exact h j h1 y hy
  · obtain rfl : j = k := by omega
    rw [hx] at hy
    injection hy with hy
    rw [← hy]
    exact hc
/-- What is so of fields whose cells are as they must be, and stays so. -/
structure Fld.good (F : Fld) : Prop where
  ok : F.ok
  seeds : ∀ k, 0 ≤ F.seed k ∧ F.seed k ≤ 1000
theorem Fld.code_zero {F : Fld} {x : Entry} (h : F.code x = 0) : x.plain = true ∧ F.has x.cell = true ∧ F.kind x.cell.toNat = 0 ∧
    (if x.what = 0 then F.seed x.cell.toNat + x.amount ≤ 1000 else x.amount ≤ F.seed x.cell.toNat) := by
  unfold Fld.code at h
  split at h
  · omega
  rename_i h1
  split at h
  · omega
  rename_i h2
  simp only [Bool.not_eq_false, Bool.and_eq_true] at h1
  refine ⟨h1.1, h1.2, by simpa using h2, ?_⟩
  split at h
  · rename_i hw
    rw [if_pos hw]
    split at h <;> omega
  · rename_i hw
    rw [if_neg hw]
    split at h <;> omega
theorem Entry.plain_iff {x : Entry} : x.plain = true ↔ (0 ≤ x.what ∧ x.what ≤ 3) ∧ (0 ≤ x.cell ∧ x.cell ≤ 99) ∧ (1 ≤ x.amount ∧ x.amount ≤ 1000) := by
  simp [Entry.plain, inB_iff]
theorem Fld.good.made {F : Fld} (h : F.good) {x : Entry} (hc : F.code x = 0) : (F.made x).good := by
  obtain ⟨hp, hh, _, hs⟩ := Fld.code_zero hc
  obtain ⟨_, ⟨c0, c1⟩, a0, a1⟩ := Entry.plain_iff.1 hp
  have hk : x.cell.toNat < F.seeds.length := by rw [h.ok.sl]; omega
  have hb := h.seeds x.cell.toNat
  have hv : 0 ≤ (if x.what = 0 then F.seed x.cell.toNat + x.amount else F.seed x.cell.toNat - x.amount) ∧ (if x.what = 0 then F.seed x.cell.toNat + x.amount else F.seed x.cell.toNat - x.amount) ≤ 1000 := by
    split at hs <;> rename_i hw <;> simp only [hw, if_true, if_false] <;> omega
  refine ⟨⟨⟨h.ok.kl, (Fld.withSeed_len h.ok.toLen _ _).sl⟩, h.ok.w0, h.ok.w1, h.ok.h0, h.ok.h1, h.ok.k0, fun y hy => ?_⟩, fun k => ?_⟩
  · rcases List.mem_or_eq_of_mem_set hy with h1 | h1
    · exact h.ok.s0 y h1
    · rw [h1]; omega
  · by_cases hkk : x.cell.toNat = k
    · subst hkk
      show 0 ≤ gi _ _ ∧ gi _ _ ≤ 1000
      rw [show (F.made x).seeds = F.seeds.set x.cell.toNat (if x.what = 0 then F.seed x.cell.toNat + x.amount else F.seed x.cell.toNat - x.amount) from rfl, gi_set_self hk]
      exact hv
    · show 0 ≤ gi _ _ ∧ gi _ _ ≤ 1000
      rw [show (F.made x).seeds = F.seeds.set x.cell.toNat (if x.what = 0 then F.seed x.cell.toNat + x.amount else F.seed x.cell.toNat - x.amount) from rfl, gi_set_ne hkk]
      exact h.seeds k
theorem Fld.valid_good {F : Fld} (h : F.ok) (hv : F.valid = true) : F.good := by
  refine ⟨h, fun k => ?_⟩
  rcases Nat.lt_or_ge k 100 with hk | hk
  · simp only [Fld.valid, Bool.and_eq_true, List.all_eq_true, List.mem_range] at hv
    have := hv.2.2 k hk
    simp only [Fld.okAt, decide_eq_true_eq] at this
    omega
  · have : F.seed k = 0 := by
      unfold Fld.seed gi
      rw [List.getD_eq_getElem?_getD, List.getElem?_eq_none (by rw [h.sl]; omega)]
      rfl
    omega
theorem fine_good {F : Fld} (h : F.good) (xs : List Entry) : ∀ k, k ≤ xs.length → fine F xs k → (F.thru (xs.take k)).good
  | 0, _, _ => by simpa [Fld.thru] using h
  | k + 1, hk, hf => by
    have ih := fine_good h xs k (by omega) (fun j hj => hf j (by omega))
    have hx : xs[k]? = some xs[k] := List.getElem?_eq_getElem (by omega)
    rw [List.take_succ_eq_append_getElem (by omega), Fld.thru_snoc]
    exact ih.made (hf k (by omega) _ hx)
/-- The sums stay small. -/
theorem sums_small {F : Fld} (xs : List Entry) : ∀ k, k ≤ xs.length → fine F xs k → ∀ j, 0 ≤ gi (sumsOf (xs.take k)) j ∧ gi (sumsOf (xs.take k)) j ≤ 1000 * k
  | 0, _, _ => fun j => by
    have : gi (zs 4) j = 0 := by
      unfold gi zs
      rw [List.getD_eq_getElem?_getD, List.getElem?_replicate]
      split <;> rfl
    simp [sumsOf, this]
  | k + 1, hk, hf => fun j => by
    have ih := sums_small xs k (by omega) (fun j hj => hf j (by omega))
    have hx : xs[k]? = some xs[k] := List.getElem?_eq_getElem (by omega)
    obtain ⟨hp, _⟩ := Fld.code_zero (hf k (by omega) _ hx)
    obtain ⟨⟨w0, w1⟩, _, a0, a1⟩ := Entry.plain_iff.1 hp
    rw [List.take_succ_eq_append_getElem (by omega), sumsOf_snoc]
    unfold addTo
    by_cases hj : xs[k].what.toNat = j
    · subst hj
      rw [gi_set_self (by rw [sumsOf_len]; omega)]
      have := ih xs[k].what.toNat
      omega
    · rw [gi_set_ne hj]
      have := ih j
      omega
end Go.Proofs.Yteecfclccfhdhaa
