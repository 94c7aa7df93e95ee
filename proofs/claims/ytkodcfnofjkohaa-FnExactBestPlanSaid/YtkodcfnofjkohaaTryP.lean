/- The two ways to the best worth lead to one number; small arrays of the reference. -/
import Derived.Test.YtkodcfnofjkohaaMostD
import Derived.Test.YtkodcfnofjkohaaLost
namespace Go.Proofs.Ytkodcfnofjkohaa
set_option linter.unusedSimpArgs false
set_option linter.unusedVariables false
open Go.RowKit

theorem maxL_mem : ∀ {q : List Int}, 0 < q.length → maxL q ∈ q
  | x :: r, _ => by
    have key : ∀ (r : List Int) (x : Int), r.foldl max x = x ∨ r.foldl max x ∈ r := by
      intro r
      induction r with
      | nil => intro x; exact .inl rfl
      | cons z r ih =>
        intro x
        rw [List.foldl_cons]
        rcases ih (max x z) with h | h
        · rw [h]
          by_cases hz : x ≤ z
          · exact .inr (by rw [show max x z = z by omega]; simp)
          · exact .inl (by omega)
        · exact .inr (by simp [h])
    rcases key r x with h | h
    · show r.foldl max x ∈ _
      rw [h]; simp
    · exact List.mem_cons_of_mem _ h
/-- What the reference finds is what the program finds. -/
theorem most_try {xs : List Plot} (hx : ∀ x ∈ xs, x.fine = true) {h : Int} {D : Nat} {p : List Int} {m : Nat} (hm : xs.length = p.length + m) (h6 : m ≤ 6) (hc : ∀ e, e < D → 0 ≤ capOf h p e) :
    mostOf xs h D p = gi (bwTo m (wtOf xs p.length) (capOf h p) D D) (2 ^ m - 1) + baseOf xs p := by
  have hw : ∀ i d, 0 ≤ wtOf xs p.length i d := fun i d => (worthAt_b hx _ _).1
  have hb := (baseOf_b hx p).1
  have hl := fwTo_len (m := m) (wt := wtOf xs p.length) (capOf h p) (baseOf xs p) D
  have hp := Nat.two_pow_pos m
  have h0 : 0 < (fwTo m (wtOf xs p.length) (capOf h p) (baseOf xs p) D).length := by omega
  unfold mostOf
  rw [if_neg, show xs.length - p.length = m by omega]
  · exact (fw_best hw hb hc (maxL_mem h0) ((maxL_le h0 _).1 (Int.le_refl _))).uniq (bw_best h6 hw hc)
  · rw [shut, List.any_eq_true]
    rintro ⟨e, he1, he2⟩
    have := hc e (List.mem_range.1 he1)
    have := of_decide_eq_true he2
    omega
/-- What is free on each day behind the first days of a plan. -/
def freeTo (h : Int) (D : Nat) (p : List Int) (i : Nat) : List Int := (List.range 20).map fun e => (if e < D then h else 0) - (((p.take i).count (e : Int) : Nat) : Int)
theorem freeTo_len (h : Int) (D : Nat) (p : List Int) (i : Nat) : (freeTo h D p i).length = 20 := by simp [freeTo]
theorem freeTo_gi (h : Int) (D : Nat) (p : List Int) (i : Nat) {e : Nat} (he : e < 20) : gi (freeTo h D p i) e = (if e < D then h else 0) - (((p.take i).count (e : Int) : Nat) : Int) := by
  unfold gi
  rw [List.getD_eq_getElem?_getD]
  simp [freeTo, he]
theorem take_count {p : List Int} {i : Nat} (hi : i < p.length) (d : Int) : (p.take (i + 1)).count d = (p.take i).count d + if gi p i = d then 1 else 0 := by
  have hgp : p[i] = gi p i := by unfold gi; rw [List.getD_eq_getElem?_getD, List.getElem?_eq_getElem hi]; rfl
  rw [List.take_succ_eq_append_getElem hi, List.count_append, List.count_singleton, hgp]
  simp only [beq_iff_eq]
theorem freeTo_succ (h : Int) (D : Nat) (p : List Int) {i : Nat} (hi : i < p.length) {y : Nat} (hy : gi p i = y) (hy2 : y ≤ 19) : freeTo h D p (i + 1) = (freeTo h D p i).set y (gi (freeTo h D p i) y - 1) := by
  refine List.ext_getElem (by simp [freeTo]) fun e h1 h2 => ?_
  rw [List.getElem_set]
  rw [freeTo_len] at h1
  have a1 : ∀ j (hh : e < (freeTo h D p j).length), (freeTo h D p j)[e] = gi (freeTo h D p j) e := fun j hh => by unfold gi; rw [List.getD_eq_getElem?_getD, List.getElem?_eq_getElem hh]; rfl
  rw [a1, a1, freeTo_gi h D p _ h1, take_count hi, hy]
  by_cases hye : y = e
  · subst hye
    rw [if_pos rfl, if_pos rfl, freeTo_gi h D p _ h1]
    omega
  · rw [if_neg hye, if_neg (show ¬ ((y : Int) = (e : Int)) by omega), freeTo_gi h D p _ h1]
    simp
theorem freeTo_neg (h : Int) (D : Nat) (p : List Int) {i : Nat} (hi : i < p.length) (hy : gi p i < 0) : freeTo h D p (i + 1) = freeTo h D p i :=
  List.map_congr_left fun e _ => by rw [take_count hi, if_neg (show ¬ gi p i = (e : Int) by omega)]; rfl
theorem freeTo_all (h : Int) {D : Nat} {p : List Int} (hD : D ≤ 20) {e : Nat} (he : e < D) : gi (freeTo h D p p.length) e = capOf h p e := by
  rw [freeTo_gi h D p _ (by omega), if_pos he, List.take_length]
  rfl
theorem freeTo_b {h : Int} {D : Nat} {p : List Int} (h0 : 0 ≤ h) (h1 : h ≤ 3) {i : Nat} (hi : i ≤ 6) (e : Nat) : -6 ≤ gi (freeTo h D p i) e ∧ gi (freeTo h D p i) e ≤ 3 := by
  rcases Nat.lt_or_ge e 20 with he | he
  · rw [freeTo_gi h D p i he]
    have := List.count_le_length (a := (e : Int)) (l := p.take i)
    rw [List.length_take] at this
    split <;> omega
  · unfold gi
    rw [List.getD_eq_getElem?_getD, List.getElem?_eq_none (by rw [freeTo_len]; exact he)]
    exact ⟨by decide, by decide⟩
/-- What the sets are worth on a day, up to one of them and of that up to a plot. -/
def wArr (m : Nat) (W : Nat → Nat → Int) (d T i : Nat) : List Int := (List.range 64).map fun s => if s < T then wsOf m W d s else if s = T then sumN i (fun j => if T.testBit j = true then W j d else 0) else 0
theorem wArr_len (m : Nat) (W : Nat → Nat → Int) (d T i : Nat) : (wArr m W d T i).length = 64 := by simp [wArr]
theorem wArr_at (m : Nat) (W : Nat → Nat → Int) (d T i : Nat) {s : Nat} (hs : s < 64) : gi (wArr m W d T i) s = if s < T then wsOf m W d s else if s = T then sumN i (fun j => if T.testBit j = true then W j d else 0) else 0 := by
  unfold gi
  rw [List.getD_eq_getElem?_getD]
  simp [wArr, hs]
theorem wsOf_0 (m : Nat) (W : Nat → Nat → Int) (d : Nat) : wsOf m W d 0 = 0 := sumN_zero m fun i _ => by simp
theorem wArr_start (m : Nat) (W : Nat → Nat → Int) (d : Nat) : wArr m W d 1 0 = zs 64 := by
  unfold wArr zs
  rw [List.map_congr_left (g := fun _ => (0 : Int)) fun s _ => by
    by_cases h : s < 1
    · rw [if_pos h, show s = 0 by omega, wsOf_0]
    · rw [if_neg h]; split <;> rfl]
  decide
theorem wArr_off (m : Nat) (W : Nat → Nat → Int) (d : Nat) {T i : Nat} (h : T.testBit i = false) : wArr m W d T (i + 1) = wArr m W d T i :=
  List.map_congr_left fun s _ => by
    split
    · rfl
    · split
      · rw [sumN, h]; simp
      · rfl
theorem wArr_next (m : Nat) (W : Nat → Nat → Int) (d T : Nat) : wArr m W d T m = wArr m W d (T + 1) 0 :=
  List.map_congr_left fun s _ => by
    by_cases h1 : s < T
    · rw [if_pos h1, if_pos (by omega)]
    · by_cases h2 : s = T
      · subst h2
        rw [if_neg (by omega), if_pos rfl, if_pos (by omega)]
        rfl
      · rw [if_neg h1, if_neg h2, if_neg (by omega)]
        split <;> rfl
theorem wArr_on (m : Nat) (W : Nat → Nat → Int) (d : Nat) {T i : Nat} (h : T.testBit i = true) (hT : T < 64) : wArr m W d T (i + 1) = (wArr m W d T i).set T (gi (wArr m W d T i) T + W i d) := by
  refine List.ext_getElem (by simp [wArr]) fun e h1 h2 => ?_
  rw [wArr_len] at h1
  have a1 : ∀ j (hh : e < (wArr m W d T j).length), (wArr m W d T j)[e] = gi (wArr m W d T j) e := fun j hh => by unfold gi; rw [List.getD_eq_getElem?_getD, List.getElem?_eq_getElem hh]; rfl
  rw [List.getElem_set, a1, a1, wArr_at m W d T _ h1, wArr_at m W d T _ h1, wArr_at m W d T _ hT]
  by_cases he : T = e
  · subst he
    rw [if_neg (by omega), if_pos rfl, if_pos rfl, if_neg (by omega), if_pos rfl, sumN, h, if_pos rfl]
  · rw [if_neg he]
    by_cases h3 : e < T
    · rw [if_pos h3, if_pos h3]
    · rw [if_neg h3, if_neg h3, if_neg (fun h => he h.symm), if_neg (fun h => he h.symm)]
theorem wArr_gi (m : Nat) (W : Nat → Nat → Int) (d : Nat) {T i s : Nat} (h : s < T) (hT : T ≤ 64) : gi (wArr m W d T i) s = wsOf m W d s := by
  rw [wArr_at m W d T i (by omega), if_pos h]
theorem wArr_b {W : Nat → Nat → Int} (hw : ∀ i d, 0 ≤ W i d ∧ W i d ≤ 1000) (m d T : Nat) {i : Nat} (s : Nat) (hi : i ≤ m) : 0 ≤ gi (wArr m W d T i) s ∧ gi (wArr m W d T i) s ≤ m * 1000 := by
  rcases Nat.lt_or_ge s 64 with hs | hs
  · rw [wArr_at m W d T i hs]
    have h1 := wsOf_b hw (m := m) d s
    have h2 : 0 ≤ sumN i (fun j => if T.testBit j = true then W j d else 0) ∧ sumN i (fun j => if T.testBit j = true then W j d else 0) ≤ i * 1000 :=
      ⟨sumN_nonneg i fun j _ => by split; exact (hw j d).1; exact Int.le_refl _, sumN_le i fun j _ => by split; exact (hw j d).2; decide⟩
    split
    · exact h1
    · split
      · omega
      · omega
  · unfold gi
    rw [List.getD_eq_getElem?_getD, List.getElem?_eq_none (by rw [wArr_len]; exact hs)]
    exact ⟨Int.le_refl 0, by show (0 : Int) ≤ _; omega⟩
theorem wo_lt {m s : Nat} (t : Nat) (h : s < 2 ^ m) : wo s t < 2 ^ m := Nat.xor_lt_two_pow h (Nat.lt_of_le_of_lt Nat.and_le_left h)
theorem bwTo_b {xs : List Plot} (hx : ∀ x ∈ xs, x.fine = true) {k m : Nat} (h6 : m ≤ 6) {cap : Nat → Int} {D : Nat} (hc : ∀ e, e < D → 0 ≤ cap e) {e : Nat} (he : e ≤ D) {s : Nat} (hs : s < 2 ^ m) : 0 ≤ gi (bwTo m (wtOf xs k) cap D e) s ∧ gi (bwTo m (wtOf xs k) cap D e) s ≤ m * 1000 := by
  have hw : ∀ i d, 0 ≤ wtOf xs k i d ∧ wtOf xs k i d ≤ 1000 := fun i d => worthAt_b hx _ _
  obtain ⟨c, _, _, h3⟩ := (bwTo_ok h6 (fun i d => (hw i d).1) hc e he).is s hs
  rw [← h3]
  exact ⟨pval_nonneg (fun i d => (hw i d).1) c, pval_b hw c⟩
end Go.Proofs.Ytkodcfnofjkohaa
