/- The best worth of the plans that begin with some days: what it is, and bounds. -/
import Derived.Test.YtkodcfnofjkohaaMostP
import Derived.Test.YtkodcfnofjkohaaGreedy
namespace Go.Proofs.Ytkodcfnofjkohaa
set_option linter.unusedSimpArgs false
set_option linter.unusedVariables false
open Go.RowKit

/-- What is free on a day. -/
def capOf (h : Int) (p : List Int) (d : Nat) : Int := h - ((p.count (d : Int) : Nat) : Int)
def wtOf (xs : List Plot) (k i d : Nat) : Int := worthAt xs (k + i) d
def baseOf (xs : List Plot) (p : List Int) : Int := sumTo (wOf (xs.take p.length) p) p.length
def shut (h : Int) (p : List Int) (D : Nat) : Bool := (List.range D).any fun d => decide (capOf h p d < 0)
/-- The best worth of all plans that begin with some days; -1 if there is none. -/
def mostOf (xs : List Plot) (h : Int) (D : Nat) (p : List Int) : Int :=
  if shut h p D = true then -1 else maxL (fwTo (xs.length - p.length) (wtOf xs p.length) (capOf h p) (baseOf xs p) D)
theorem worthAt_b {xs : List Plot} (hx : ∀ x ∈ xs, x.fine = true) (i : Nat) (d : Int) : 0 ≤ worthAt xs i d ∧ worthAt xs i d ≤ 1000 := by
  unfold worthAt
  split
  · rename_i x h
    have := Plot.worth_b (hx x (List.mem_of_getElem? h)) d
    omega
  · omega
theorem baseOf_b {xs : List Plot} (hx : ∀ x ∈ xs, x.fine = true) (p : List Int) : 0 ≤ baseOf xs p ∧ baseOf xs p ≤ 1000 * (p.length : Int) :=
  sumTo_b (wOf_b (fun x hx' => hx x (List.mem_of_mem_take hx')) p) p.length
theorem baseOf_eq (xs : List Plot) (p : List Int) (hp : p.length ≤ xs.length) : baseOf xs p = sumTo (gi (worthsOf (xs.take p.length) p)) p.length :=
  sumTo_congr _ fun i hi => (worthsOf_gi (by rw [List.length_take]; omega)).symm
theorem worthsOf_b {xs : List Plot} (hx : ∀ x ∈ xs, x.fine = true) (k : Nat) (p : List Int) (i : Nat) : 0 ≤ gi (worthsOf (xs.take k) p) i ∧ gi (worthsOf (xs.take k) p) i ≤ 1000 := by
  rcases Nat.lt_or_ge i (xs.take k).length with h | h
  · rw [worthsOf_gi h]
    exact wOf_b (fun x hx' => hx x (List.mem_of_mem_take hx')) p i
  · unfold gi
    rw [List.getD_eq_getElem?_getD, List.getElem?_eq_none (by rw [worthsOf_len]; exact h)]
    exact ⟨by decide, by decide⟩
theorem pval_b {m : Nat} {wt : Nat → Nat → Int} (hw : ∀ i d, 0 ≤ wt i d ∧ wt i d ≤ 1000) (c : Nat → Int) : pval m wt c ≤ m * 1000 :=
  sumN_le m fun i _ => by split; exact (hw _ _).2; decide
theorem fwTo_b {m : Nat} {wt : Nat → Nat → Int} {cap : Nat → Int} {base : Int} {D : Nat} (hw : ∀ i d, 0 ≤ wt i d ∧ wt i d ≤ 1000) (hb : 0 ≤ base) (hc : ∀ d, d < D → 0 ≤ cap d) {s : Nat} (hs : s < 2 ^ m) (h0 : 0 ≤ gi (fwTo m wt cap base D) s) : gi (fwTo m wt cap base D) s ≤ base + m * 1000 := by
  obtain ⟨c, _, _, he⟩ := (fwTo_ok (fun i d => (hw i d).1) hb D hc).is s hs h0
  have := pval_b hw (m := m) c
  omega
theorem wsOf_b {m : Nat} {wt : Nat → Nat → Int} (hw : ∀ i d, 0 ≤ wt i d ∧ wt i d ≤ 1000) (d s : Nat) : 0 ≤ wsOf m wt d s ∧ wsOf m wt d s ≤ m * 1000 :=
  ⟨sumN_nonneg m fun i _ => by split; exact (hw _ _).1; exact Int.le_refl _, sumN_le m fun i _ => by split; exact (hw _ _).2; decide⟩
theorem cap_len (h : Int) (p : List Int) (d : Nat) : h - p.length ≤ capOf h p d ∧ capOf h p d ≤ h := by
  have := List.count_le_length (a := (d : Int)) (l := p)
  unfold capOf
  omega
end Go.Proofs.Ytkodcfnofjkohaa
