/- The best one of some cells: what it is. -/
import Derived.Test.YtbjcajhbhicokaaCellsFor
namespace Go.Proofs.Ytbjcajhbhicokaa
set_option linter.unusedSimpArgs false
set_option linter.unusedVariables false
open Go.RowKit

/-- The better one of the best so far and a new one, if that counts. -/
def pickStep (p : Nat → Bool) (lt : Nat → Nat → Bool) (b : Int) (k : Nat) : Int := if (p k && (decide (b < 0) || lt k b.toNat)) = true then (k : Int) else b
def pick (p : Nat → Bool) (lt : Nat → Nat → Bool) (ks : List Nat) : Int := ks.foldl (pickStep p lt) (-1)
theorem pick_snoc (p : Nat → Bool) (lt : Nat → Nat → Bool) (ks : List Nat) (k : Nat) : pick p lt (ks ++ [k]) = pickStep p lt (pick p lt ks) k := by simp [pick]
theorem pick_of (p : Nat → Bool) (lt : Nat → Nat → Bool) (ks : List Nat) : pick p lt ks = -1 ∨ ∃ k ∈ ks, p k = true ∧ pick p lt ks = k := by
  have key : ∀ (r : List Nat), (∀ x ∈ r, x ∈ ks) → ∀ b : Int, (b = -1 ∨ ∃ k ∈ ks, p k = true ∧ b = k) → (r.foldl (pickStep p lt) b = -1 ∨ ∃ k ∈ ks, p k = true ∧ r.foldl (pickStep p lt) b = k) := by
    intro r
    induction r with
    | nil => intro _ b h; exact h
    | cons x r ih =>
      intro hr b hb
      refine ih (fun y hy => hr y (by simp [hy])) _ ?_
      unfold pickStep
      split
      · rename_i h
        rw [Bool.and_eq_true] at h
        exact .inr ⟨x, hr x (by simp), h.1, rfl⟩
      · exact hb
  exact key ks (fun _ h => h) _ (.inl rfl)
theorem pick_congr {p q : Nat → Bool} (lt : Nat → Nat → Bool) {ks : List Nat} (h : ∀ k ∈ ks, p k = q k) : pick p lt ks = pick q lt ks := by
  have key : ∀ (r : List Nat), (∀ x ∈ r, x ∈ ks) → ∀ b : Int, r.foldl (pickStep p lt) b = r.foldl (pickStep q lt) b := by
    intro r
    induction r with
    | nil => intro _ b; rfl
    | cons x r ih =>
      intro hr b
      rw [List.foldl_cons, List.foldl_cons, ih (fun y hy => hr y (by simp [hy]))]
      rw [pickStep, pickStep, h x (hr x (by simp))]
  exact key ks (fun _ h => h) _
theorem pick_filter (p q : Nat → Bool) (lt : Nat → Nat → Bool) (ks : List Nat) : pick p lt (ks.filter q) = pick (fun k => q k && p k) lt ks := by
  have key : ∀ (r : List Nat) (b : Int), (r.filter q).foldl (pickStep p lt) b = r.foldl (pickStep (fun k => q k && p k) lt) b := by
    intro r
    induction r with
    | nil => intro b; rfl
    | cons x r ih =>
      intro b
      rw [List.filter_cons, List.foldl_cons]
      cases h : q x
      · simp only [Bool.false_eq_true, if_false]
        rw [ih, show pickStep (fun k => q k && p k) lt b x = b by simp [pickStep, h]]
      · simp only [if_true]
        rw [List.foldl_cons, ih, show pickStep (fun k => q k && p k) lt b x = pickStep p lt b x by simp [pickStep, h]]
  exact key ks _
/-- Whether one list of numbers comes before another. -/
def lexlt : List Int → List Int → Bool
  | a :: r, b :: q => decide (a < b) || (decide (a = b) && lexlt r q)
  | [], _ :: _ => true
  | _, [] => false
def rk (F : Fld) (fs : List Int) (x : Flock) (k : Nat) : List Int :=
  if x.taste = 0 then [-F.seed k, sq k x.tree] else if x.taste = 1 then [sq k x.tree, -F.seed k] else [gi fs k, -F.seed k, sq k x.tree]
def rk3 (F : Fld) (fs : List Int) (x : Flock) (k : Nat) : List Int :=
  if x.taste = 0 then [-F.seed k, sq k x.tree, 0] else if x.taste = 1 then [sq k x.tree, -F.seed k, 0] else [gi fs k, -F.seed k, sq k x.tree]
def better (F : Fld) (fs : List Int) (x : Flock) (a b : Nat) : Bool := lexlt (rk F fs x a) (rk F fs x b)
theorem better3 (F : Fld) (fs : List Int) (x : Flock) (a b : Nat) : lexlt (rk3 F fs x a) (rk3 F fs x b) = better F fs x a b := by
  have h : ∀ a b c d : Int, lexlt [a, b, 0] [c, d, 0] = lexlt [a, b] [c, d] := fun a b c d => by simp [lexlt]
  unfold better rk rk3
  split
  · exact h _ _ _ _
  · split
    · exact h _ _ _ _
    · rfl
def choiceOf (F : Fld) (fs : List Int) (x : Flock) : Int := pick (fun k => F.has k && goP F fs x k) (better F fs x) (List.range 100)
theorem choice_all (F : Fld) (fs : List Int) (x : Flock) : pick (goSet F fs x).has (better F fs x) F.all = choiceOf F fs x := by
  rw [Fld.all, Fld.below, pick_filter, choiceOf]
  refine pick_congr _ fun k hk => ?_
  rw [goSet_has F fs x (List.mem_range.1 hk)]
  cases F.has k <;> rfl
theorem choice_of (F : Fld) (fs : List Int) (x : Flock) : choiceOf F fs x = -1 ∨ ∃ k : Nat, k < 100 ∧ (F.has k && goP F fs x k) = true ∧ choiceOf F fs x = k := by
  rcases pick_of (fun k => F.has k && goP F fs x k) (better F fs x) (List.range 100) with h | ⟨k, h1, h2, h3⟩
  · exact .inl h
  · exact .inr ⟨k, List.mem_range.1 h1, h2, h3⟩
end Go.Proofs.Ytbjcajhbhicokaa
