/- The best plan, day by day: each day the least that leaves the best worth within reach. No program. -/
import Derived.Test.YtkodcfnofjkohaaTryP
namespace Go.Proofs.Ytkodcfnofjkohaa
set_option linter.unusedSimpArgs false
set_option linter.unusedVariables false
open Go.RowKit

theorem sumN_front (f : Nat → Int) : ∀ n, sumN (n + 1) f = f 0 + sumN n fun i => f (i + 1)
  | 0 => by simp [sumN]
  | n + 1 => by rw [sumN, sumN_front f n, sumN]; omega
theorem cntN_front (p : Nat → Bool) : ∀ n, cntN (n + 1) p = (if p 0 = true then 1 else 0) + cntN n fun i => p (i + 1)
  | 0 => by simp [cntN]
  | n + 1 => by rw [cntN, cntN_front p n, cntN]; omega
theorem capOf_snoc (h : Int) (p : List Int) (d : Int) (e : Nat) : capOf h (p ++ [d]) e = capOf h p e - if d = e then 1 else 0 := by
  unfold capOf
  rw [List.count_append, List.count_singleton]
  by_cases hd : d = (e : Int)
  · rw [if_pos hd, if_pos (by simpa using hd)]; omega
  · rw [if_neg hd, if_neg (by simpa using hd)]; omega
theorem baseOf_snoc {xs : List Plot} {p : List Int} (hk : p.length < xs.length) (d : Int) : baseOf xs (p ++ [d]) = baseOf xs p + if 0 ≤ d then wtOf xs p.length 0 d.toNat else 0 := by
  have hl : (p ++ [d]).length = p.length + 1 := by simp
  unfold baseOf
  rw [hl, sumTo]
  congr 1
  · refine sumTo_congr _ fun i hi => ?_
    unfold wOf
    rw [List.getElem?_take_of_lt (by omega), List.getElem?_take_of_lt hi, List.getElem?_append_left hi]
  · unfold wOf wtOf worthAt
    rw [List.getElem?_take_of_lt (by omega), List.getElem?_append_right (Nat.le_refl _), Nat.sub_self, Nat.add_zero, List.getElem?_eq_getElem hk]
    show (if 0 ≤ d then _ else _) = _
    by_cases h0 : 0 ≤ d
    · rw [if_pos h0, if_pos h0, show ((d.toNat : Nat) : Int) = d by omega]
    · rw [if_neg h0, if_neg h0]
theorem best_of {xs : List Plot} (hx : ∀ x ∈ xs, x.fine = true) {h : Int} {D : Nat} {p : List Int} {m : Nat} (hm : xs.length = p.length + m) (h6 : m ≤ 6) (hc : ∀ e, e < D → 0 ≤ capOf h p e) :
    Best m D (capOf h p) (wtOf xs p.length) (baseOf xs p) (mostOf xs h D p) := by
  rw [most_try hx hm h6 hc]
  exact bw_best h6 (fun i d => (worthAt_b hx _ _).1) hc
theorem most_shut {xs : List Plot} {h : Int} {D : Nat} {p : List Int} {e : Nat} (he : e < D) (hc : capOf h p e < 0) : mostOf xs h D p = -1 := by
  unfold mostOf
  rw [if_pos]
  rw [shut, List.any_eq_true]
  exact ⟨e, List.mem_range.2 he, decide_eq_true hc⟩
def consA (d : Int) (c : Nat → Int) : Nat → Int
  | 0 => d
  | i + 1 => c i
theorem pval_cons (xs : List Plot) (k m : Nat) (d : Int) (c : Nat → Int) : pval (m + 1) (wtOf xs k) (consA d c) = (if 0 ≤ d then wtOf xs k 0 d.toNat else 0) + pval m (wtOf xs (k + 1)) c := by
  unfold pval
  rw [sumN_front]
  congr 1
  refine sumN_congr m fun i _ => ?_
  show (if 0 ≤ c i then wtOf xs k (i + 1) (c i).toNat else 0) = _
  unfold wtOf
  rw [show k + (i + 1) = k + 1 + i by omega]
theorem asg_tail {m D : Nat} {h : Int} {p : List Int} {c : Nat → Int} (H : Asg (m + 1) 0 D (capOf h p) c) : Asg m 0 D (capOf h (p ++ [c 0])) fun i => c (i + 1) := by
  refine ⟨fun i hi => H.day (i + 1) (by omega), fun d h1 h2 => ?_⟩
  have := H.cap d h1 h2
  rw [cntN_front] at this
  rw [capOf_snoc]
  by_cases hd : c 0 = d
  · rw [if_pos (decide_eq_true hd)] at this
    rw [if_pos hd]
    omega
  · rw [if_neg (by rw [decide_eq_true_eq]; exact hd)] at this
    rw [if_neg hd]
    omega
theorem asg_cons {m D : Nat} {h : Int} {p : List Int} {d : Int} {c : Nat → Int} (hd : d = -1 ∨ (0 ≤ d ∧ d < D)) (H : Asg m 0 D (capOf h (p ++ [d])) c) : Asg (m + 1) 0 D (capOf h p) (consA d c) := by
  refine ⟨fun i hi => ?_, fun e h1 h2 => ?_⟩
  · match i with
    | 0 => exact hd
    | i + 1 => exact H.day i (by omega)
  · have := H.cap e h1 h2
    rw [capOf_snoc] at this
    rw [cntN_front]
    show (((if decide (d = (e : Int)) = true then 1 else 0) + cntN m (fun i => decide (c i = e)) : Nat) : Int) ≤ _
    by_cases hd : d = e
    · rw [if_pos hd] at this
      rw [if_pos (decide_eq_true hd)]
      omega
    · rw [if_neg hd] at this
      rw [if_neg (by rw [decide_eq_true_eq]; exact hd)]
      omega
/-- The day that the best plan has behind a beginning. -/
def bday (xs : List Plot) (h : Int) (D : Nat) (v : Int) (p : List Int) : Int := ((((List.range 21).find? fun j : Nat => decide (v ≤ mostOf xs h D (p ++ [(j : Int) - 1]))).getD 0 : Nat) : Int) - 1
def bpTo (xs : List Plot) (h : Int) (D : Nat) : Nat → List Int
  | 0 => []
  | k + 1 => bpTo xs h D k ++ [bday xs h D (mostOf xs h D []) (bpTo xs h D k)]
theorem bpTo_len (xs : List Plot) (h : Int) (D : Nat) : ∀ k, (bpTo xs h D k).length = k
  | 0 => rfl
  | k + 1 => by rw [bpTo, List.length_append, bpTo_len xs h D k]; rfl
theorem bday_at {xs : List Plot} {h : Int} {D : Nat} {v : Int} {p : List Int} {j : Nat} (hj : j ≤ 20) (h1 : v ≤ mostOf xs h D (p ++ [(j : Int) - 1])) (h2 : ∀ i : Nat, i < j → mostOf xs h D (p ++ [(i : Int) - 1]) < v) : bday xs h D v p = (j : Int) - 1 := by
  unfold bday
  rw [show (List.range 21).find? (fun j : Nat => decide (v ≤ mostOf xs h D (p ++ [(j : Int) - 1]))) = some j from
    List.find?_range_eq_some.2 ⟨decide_eq_true h1, List.mem_range.2 (by omega), fun i hi => by rw [decide_eq_false (by have := h2 i hi; omega)]; rfl⟩]
  rfl
structure BpOk (xs : List Plot) (h : Int) (D : Nat) (p : List Int) : Prop where
  days : ∀ d ∈ p, -1 ≤ d ∧ d < D
  caps : ∀ e, e < D → 0 ≤ capOf h p e
  val : mostOf xs h D p = mostOf xs h D []
section
variable {xs : List Plot} (hx : ∀ x ∈ xs, x.fine = true) (h6 : xs.length ≤ 6) {h : Int} (h0 : 0 ≤ h) {D : Nat}
include hx h6 in
theorem bp_le {p : List Int} (H : BpOk xs h D p) (hk : p.length < xs.length) {d : Int} (hd : d = -1 ∨ (0 ≤ d ∧ d < D)) : mostOf xs h D (p ++ [d]) ≤ mostOf xs h D [] := by
  have hl : (p ++ [d]).length = p.length + 1 := by simp
  have B := best_of hx (m := xs.length - p.length) (by omega) (by omega) H.caps
  rw [← H.val]
  by_cases hc : ∀ e, e < D → 0 ≤ capOf h (p ++ [d]) e
  · have B' := best_of hx (p := p ++ [d]) (m := xs.length - p.length - 1) (by rw [hl]; omega) (by omega) hc
    obtain ⟨c, c1, c2⟩ := B'.is
    have a := asg_cons hd c1
    rw [show xs.length - p.length - 1 + 1 = xs.length - p.length by omega] at a
    have := B.most _ a
    rw [show xs.length - p.length = xs.length - p.length - 1 + 1 by omega, pval_cons] at this
    rw [baseOf_snoc hk, hl] at c2
    omega
  · simp only [Classical.not_forall] at hc
    obtain ⟨e, he, hc⟩ := hc
    rw [most_shut he (by omega)]
    have := B.most noPlan (noPlan_asg _ 0 D fun d _ h => H.caps d h)
    rw [pval_noPlan] at this
    have := (baseOf_b hx p).1
    omega
include hx h6 in
theorem bp_is {p : List Int} (H : BpOk xs h D p) (hk : p.length < xs.length) : ∃ d : Int, (d = -1 ∨ (0 ≤ d ∧ d < D)) ∧ BpOk xs h D (p ++ [d]) := by
  have B := best_of hx (m := xs.length - p.length) (by omega) (by omega) H.caps
  obtain ⟨c, c1, c2⟩ := B.is
  obtain ⟨m, hm⟩ : ∃ m, xs.length - p.length = m + 1 := ⟨xs.length - p.length - 1, by omega⟩
  rw [hm] at c1 c2
  have hd : c 0 = -1 ∨ (0 ≤ c 0 ∧ c 0 < D) := c1.day 0 (by omega)
  have hl : (p ++ [c 0]).length = p.length + 1 := by simp
  have t := asg_tail c1
  have hc : ∀ e, e < D → 0 ≤ capOf h (p ++ [c 0]) e := fun e he => by
    have := t.cap e (by omega) he
    omega
  refine ⟨c 0, hd, fun d hd' => ?_, hc, ?_⟩
  · rcases List.mem_append.1 hd' with h | h
    · exact H.days d h
    · rw [List.mem_singleton] at h
      subst h
      rcases hd with h | h <;> omega
  · have B' := best_of hx (p := p ++ [c 0]) (m := m) (by rw [hl]; omega) (by omega) hc
    have h1 := B'.most _ t
    have h2 := bp_le hx h6 H hk hd
    have e1 := pval_cons xs p.length m (c 0) fun i => c (i + 1)
    rw [show (consA (c 0) fun i => c (i + 1)) = c from funext fun i => by cases i <;> rfl] at e1
    rw [baseOf_snoc hk, hl] at h1
    have := H.val
    omega
include hx h6 in
theorem bp_shut {p : List Int} (H : BpOk xs h D p) : 0 ≤ mostOf xs h D [] := by
  rw [← H.val]
  by_cases hl : p.length ≤ xs.length
  · have B := best_of hx (m := xs.length - p.length) (by omega) (by omega) H.caps
    have := B.most noPlan (noPlan_asg _ 0 D fun d _ h => H.caps d h)
    rw [pval_noPlan] at this
    have := (baseOf_b hx p).1
    omega
  · unfold mostOf
    rw [if_neg, show xs.length - p.length = 0 by omega]
    · have hb := (baseOf_b hx p).1
      have hf := (fwTo_ok (m := 0) (wt := wtOf xs p.length) (fun i d => (worthAt_b hx _ _).1) hb D H.caps).most 0 noPlan (by decide) (noPlan_asg _ 0 D fun d _ h => H.caps d h) (fun i hi => by omega)
      rw [pval_noPlan] at hf
      have hl := fwTo_len (m := 0) (wt := wtOf xs p.length) (capOf h p) (baseOf xs p) D
      have h0 : 0 < (fwTo 0 (wtOf xs p.length) (capOf h p) (baseOf xs p) D).length := by omega
      have := (maxL_le h0 _).1 (Int.le_refl _) (gi (fwTo 0 (wtOf xs p.length) (capOf h p) (baseOf xs p) D) 0) (by
        unfold gi
        rw [List.getD_eq_getElem?_getD, List.getElem?_eq_getElem h0]
        exact List.getElem_mem h0)
      omega
    · rw [shut, List.any_eq_true]
      rintro ⟨e, he1, he2⟩
      have := H.caps e (List.mem_range.1 he1)
      have := of_decide_eq_true he2
      omega
include hx h6 in
theorem bp_day {p : List Int} (H : BpOk xs h D p) (hD : D ≤ 20) (hk : p.length < xs.length) :
    ∃ j : Nat, j ≤ D ∧ bday xs h D (mostOf xs h D []) p = (j : Int) - 1 ∧ BpOk xs h D (p ++ [(j : Int) - 1]) ∧ ∀ i : Nat, i < j → mostOf xs h D (p ++ [(i : Int) - 1]) < mostOf xs h D [] := by
  obtain ⟨d, hd, Hd⟩ := bp_is hx h6 H hk
  have hv := bp_shut hx h6 H
  have ex : ∃ j : Nat, j ≤ D ∧ mostOf xs h D [] ≤ mostOf xs h D (p ++ [(j : Int) - 1]) := ⟨(d + 1).toNat, by rcases hd with h | h <;> omega, by rw [show (((d + 1).toNat : Nat) : Int) - 1 = d by rcases hd with h | h <;> omega, Hd.val]; exact Int.le_refl _⟩
  have least : ∀ n : Nat, (∃ j : Nat, j ≤ n ∧ mostOf xs h D [] ≤ mostOf xs h D (p ++ [(j : Int) - 1])) → ∃ j : Nat, j ≤ n ∧ mostOf xs h D [] ≤ mostOf xs h D (p ++ [(j : Int) - 1]) ∧ ∀ i : Nat, i < j → mostOf xs h D (p ++ [(i : Int) - 1]) < mostOf xs h D [] := by
    intro n
    induction n with
    | zero =>
      rintro ⟨j, hj, h1⟩
      exact ⟨j, hj, h1, fun i hi => by omega⟩
    | succ n ih =>
      rintro ⟨j, hj, h1⟩
      by_cases hn : ∃ j : Nat, j ≤ n ∧ mostOf xs h D [] ≤ mostOf xs h D (p ++ [(j : Int) - 1])
      · obtain ⟨j', a, b⟩ := ih hn
        exact ⟨j', by omega, b⟩
      · refine ⟨j, hj, h1, fun i hi => ?_⟩
        rcases Int.lt_or_le (mostOf xs h D (p ++ [(i : Int) - 1])) (mostOf xs h D []) with h | h
        · exact h
        · exact absurd ⟨i, by omega, h⟩ hn
  obtain ⟨j, hj, j1, j2⟩ := least D ex
  have hdj : ((j : Int) - 1 = -1 ∨ (0 ≤ (j : Int) - 1 ∧ (j : Int) - 1 < D)) := by omega
  have hle := bp_le hx h6 H hk hdj
  refine ⟨j, hj, bday_at (by omega) j1 j2, ⟨fun e he => ?_, fun e he => ?_, by omega⟩, j2⟩
  · rcases List.mem_append.1 he with h | h
    · exact H.days e h
    · rw [List.mem_singleton] at h
      omega
  · rcases Int.lt_or_le (capOf h (p ++ [(j : Int) - 1]) e) 0 with h | h
    · rw [most_shut he h] at j1
      omega
    · exact h
include hx h6 h0 in
theorem bp_ok (hD : D ≤ 20) : ∀ k, k ≤ xs.length → BpOk xs h D (bpTo xs h D k)
  | 0, _ => ⟨fun d h => absurd h (by simp [bpTo]), fun e _ => by unfold bpTo capOf; simp; exact h0, rfl⟩
  | k + 1, hk => by
    have H := bp_ok hD k (by omega)
    obtain ⟨j, _, j1, j2, _⟩ := bp_day hx h6 H hD (by rw [bpTo_len]; omega)
    rw [bpTo, j1]
    exact j2
include hx h6 h0 in
theorem bp_sum (hD : D ≤ 20) : mostOf xs h D [] = baseOf xs (bpTo xs h D xs.length) := by
  have H := bp_ok hx h6 h0 hD xs.length (Nat.le_refl _)
  have B := best_of hx (p := bpTo xs h D xs.length) (m := 0) (by rw [bpTo_len]; rfl) (by omega) H.caps
  obtain ⟨c, _, c2⟩ := B.is
  have := H.val
  have : pval 0 (wtOf xs (bpTo xs h D xs.length).length) c = 0 := rfl
  omega
end
end Go.Proofs.Ytkodcfnofjkohaa
