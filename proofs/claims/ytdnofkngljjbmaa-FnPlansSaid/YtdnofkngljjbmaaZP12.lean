/- Texts of a proof, laid together: MostD, TryP, BestP. -/
import Derived.Test.YtdnofkngljjbmaaZP02
import Derived.Test.YtdnofkngljjbmaaZP11
import Derived.Test.YtdnofkngljjbmaaZP10
namespace Go.Proofs.Ytdnofkngljjbmaa
set_option linter.unusedSimpArgs false
set_option linter.unusedVariables false
open Go.RowKit

/-- What is free on a day. -/
def capOf (h : Int) (p : List Int) (d : Nat) : Int := h - ((p.count (d : Int) : Nat) : Int)
def wtOf (xs : List Plot) (k i d : Nat) : Int := worthAt xs (k + i) d
def baseOf (xs : List Plot) (p : List Int) : Int := sumTo (wOf (xs.take p.length) p) p.length
def shut (h : Int) (p : List Int) (D : Nat) : Bool := (List.range D).any fun d => decide (capOf h p d < 0)
/-- The best worth of all plans that begin with some days; -1 if there is none. -/
def mostOf (xs : List Plot) (h : Int) (D : Nat) (p : List Int) : Int :=
  if shut h p D = true then -1 else maxL (fwTo (xs.length - p.length) (wtOf xs p.length) (capOf h p) (baseOf xs p) D)
theorem worthAt_b {xs : List Plot} (hx : ∀ x ∈ xs, x.fine = true) (i : Nat) (d : Int) : 0 ≤ worthAt xs i d ∧ worthAt xs i d ≤ 1000 := by
  unfold worthAt
  split
  · rename_i x h
    have := Plot.worth_b (hx x (List.mem_of_getElem? h)) d
    omega
  · omega
theorem baseOf_b {xs : List Plot} (hx : ∀ x ∈ xs, x.fine = true) (p : List Int) : 0 ≤ baseOf xs p ∧ baseOf xs p ≤ 1000 * (p.length : Int) :=
  sumTo_b (wOf_b (fun x hx' => hx x (List.mem_of_mem_take hx')) p) p.length
theorem baseOf_eq (xs : List Plot) (p : List Int) (hp : p.length ≤ xs.length) : baseOf xs p = sumTo (gi (worthsOf (xs.take p.length) p)) p.length :=
  sumTo_congr _ fun i hi => (worthsOf_gi (by rw [List.length_take]; omega)).symm
theorem worthsOf_b {xs : List Plot} (hx : ∀ x ∈ xs, x.fine = true) (k : Nat) (p : List Int) (i : Nat) : 0 ≤ gi (worthsOf (xs.take k) p) i ∧ gi (worthsOf (xs.take k) p) i ≤ 1000 := by
  rcases Nat.lt_or_ge i (xs.take k).length with h | h
  · rw [worthsOf_gi h]
    exact wOf_b (fun x hx' => hx x (List.mem_of_mem_take hx')) p i
  · unfold gi
    rw [List.getD_eq_getElem?_getD, List.getElem?_eq_none (by rw [worthsOf_len]; exact h)]
    exact ⟨by decide, by decide⟩
theorem pval_b {m : Nat} {wt : Nat → Nat → Int} (hw : ∀ i d, 0 ≤ wt i d ∧ wt i d ≤ 1000) (c : Nat → Int) : pval m wt c ≤ m * 1000 :=
  sumN_le m fun i _ => by split; exact (hw _ _).2; decide
theorem fwTo_b {m : Nat} {wt : Nat → Nat → Int} {cap : Nat → Int} {base : Int} {D : Nat} (hw : ∀ i d, 0 ≤ wt i d ∧ wt i d ≤ 1000) (hb : 0 ≤ base) (hc : ∀ d, d < D → 0 ≤ cap d) {s : Nat} (hs : s < 2 ^ m) (h0 : 0 ≤ gi (fwTo m wt cap base D) s) : gi (fwTo m wt cap base D) s ≤ base + m * 1000 := by
  obtain ⟨c, _, _, he⟩ := (fwTo_ok (fun i d => (hw i d).1) hb D hc).is s hs h0
  have := pval_b hw (m := m) c
  omega
theorem wsOf_b {m : Nat} {wt : Nat → Nat → Int} (hw : ∀ i d, 0 ≤ wt i d ∧ wt i d ≤ 1000) (d s : Nat) : 0 ≤ wsOf m wt d s ∧ wsOf m wt d s ≤ m * 1000 :=
  ⟨sumN_nonneg m fun i _ => by split; exact (hw _ _).1; exact Int.le_refl _, sumN_le m fun i _ => by split; exact (hw _ _).2; decide⟩
theorem cap_len (h : Int) (p : List Int) (d : Nat) : h - p.length ≤ capOf h p d ∧ capOf h p d ≤ h := by
  have := List.count_le_length (a := (d : Int)) (l := p)
  unfold capOf
  omega
end Go.Proofs.Ytdnofkngljjbmaa
namespace Go.Proofs.Ytdnofkngljjbmaa
set_option linter.unusedSimpArgs false
set_option linter.unusedVariables false
open Go.RowKit

theorem maxL_mem : ∀ {q : List Int}, 0 < q.length → maxL q ∈ q
  | x :: r, _ => by
    have key : ∀ (r : List Int) (x : Int), r.foldl max x = x ∨ r.foldl max x ∈ r := by
      intro r
      induction r with
      | nil => intro x; exact .inl rfl
      | cons z r ih =>
        intro x
        rw [List.foldl_cons]
        rcases ih (max x z) with h | h
        · rw [h]
          by_cases hz : x ≤ z
          · exact .inr (by rw [show max x z = z by omega]; simp)
          · exact .inl (by omega)
        · exact .inr (by simp [h])
    rcases key r x with h | h
    · show r.foldl max x ∈ _
      rw [h]; simp
    · exact List.mem_cons_of_mem _ h
/-- What the reference finds is what the program finds. -/
theorem most_try {xs : List Plot} (hx : ∀ x ∈ xs, x.fine = true) {h : Int} {D : Nat} {p : List Int} {m : Nat} (hm : xs.length = p.length + m) (h6 : m ≤ 6) (hc : ∀ e, e < D → 0 ≤ capOf h p e) :
    mostOf xs h D p = gi (bwTo m (wtOf xs p.length) (capOf h p) D D) (2 ^ m - 1) + baseOf xs p := by
  have hw : ∀ i d, 0 ≤ wtOf xs p.length i d := fun i d => (worthAt_b hx _ _).1
  have hb := (baseOf_b hx p).1
  have hl := fwTo_len (m := m) (wt := wtOf xs p.length) (capOf h p) (baseOf xs p) D
  have hp := Nat.two_pow_pos m
  have h0 : 0 < (fwTo m (wtOf xs p.length) (capOf h p) (baseOf xs p) D).length := by omega
  unfold mostOf
  rw [if_neg, show xs.length - p.length = m by omega]
  · exact (fw_best hw hb hc (maxL_mem h0) ((maxL_le h0 _).1 (Int.le_refl _))).uniq (bw_best h6 hw hc)
  · rw [shut, List.any_eq_true]
    rintro ⟨e, he1, he2⟩
    have := hc e (List.mem_range.1 he1)
    have := of_decide_eq_true he2
    omega
/-- What is free on each day behind the first days of a plan. -/
def freeTo (h : Int) (D : Nat) (p : List Int) (i : Nat) : List Int := (List.range 20).map fun e => (if e < D then h else 0) - (((p.take i).count (e : Int) : Nat) : Int)
theorem freeTo_len (h : Int) (D : Nat) (p : List Int) (i : Nat) : (freeTo h D p i).length = 20 := by simp [freeTo]
theorem freeTo_gi (h : Int) (D : Nat) (p : List Int) (i : Nat) {e : Nat} (he : e < 20) : gi (freeTo h D p i) e = (if e < D then h else 0) - (((p.take i).count (e : Int) : Nat) : Int) := by
  unfold gi
  rw [List.getD_eq_getElem?_getD]
  simp [freeTo, he]
theorem take_count {p : List Int} {i : Nat} (hi : i < p.length) (d : Int) : (p.take (i + 1)).count d = (p.take i).count d + if gi p i = d then 1 else 0 := by
  have hgp : p[i] = gi p i := by unfold gi; rw [List.getD_eq_getElem?_getD, List.getElem?_eq_getElem hi]; rfl
  rw [List.take_succ_eq_append_getElem hi, List.count_append, List.count_singleton, hgp]
  simp only [beq_iff_eq]
theorem freeTo_succ (h : Int) (D : Nat) (p : List Int) {i : Nat} (hi : i < p.length) {y : Nat} (hy : gi p i = y) (hy2 : y ≤ 19) : freeTo h D p (i + 1) = (freeTo h D p i).set y (gi (freeTo h D p i) y - 1) := by
  refine List.ext_getElem (by simp [freeTo]) fun e h1 h2 => ?_
  rw [List.getElem_set]
  rw [freeTo_len] at h1
  have a1 : ∀ j (hh : e < (freeTo h D p j).length), (freeTo h D p j)[e] = gi (freeTo h D p j) e := fun j hh => by unfold gi; rw [List.getD_eq_getElem?_getD, List.getElem?_eq_getElem hh]; rfl
  rw [a1, a1, freeTo_gi h D p _ h1, take_count hi, hy]
  by_cases hye : y = e
  · subst hye
    rw [if_pos rfl, if_pos rfl, freeTo_gi h D p _ h1]
    omega
  · rw [if_neg hye, if_neg (show ¬ ((y : Int) = (e : Int)) by omega), freeTo_gi h D p _ h1]
    simp
theorem freeTo_neg (h : Int) (D : Nat) (p : List Int) {i : Nat} (hi : i < p.length) (hy : gi p i < 0) : freeTo h D p (i + 1) = freeTo h D p i :=
  List.map_congr_left fun e _ => by rw [take_count hi, if_neg (show ¬ gi p i = (e : Int) by omega)]; rfl
theorem freeTo_all (h : Int) {D : Nat} {p : List Int} (hD : D ≤ 20) {e : Nat} (he : e < D) : gi (freeTo h D p p.length) e = capOf h p e := by
  rw [freeTo_gi h D p _ (by omega), if_pos he, List.take_length]
  rfl
theorem freeTo_b {h : Int} {D : Nat} {p : List Int} (h0 : 0 ≤ h) (h1 : h ≤ 3) {i : Nat} (hi : i ≤ 6) (e : Nat) : -6 ≤ gi (freeTo h D p i) e ∧ gi (freeTo h D p i) e ≤ 3 := by
  rcases Nat.lt_or_ge e 20 with he | he
  · rw [freeTo_gi h D p i he]
    have := List.count_le_length (a := (e : Int)) (l := p.take i)
    rw [List.length_take] at this
    split <;> omega
  · unfold gi
    rw [List.getD_eq_getElem?_getD, List.getElem?_eq_none (by rw [freeTo_len]; exact he)]
    exact ⟨by decide, by decide⟩
/-- What the sets are worth on a day, up to one of them and of that up to a plot. -/
def wArr (m : Nat) (W : Nat → Nat → Int) (d T i : Nat) : List Int := (List.range 64).map fun s => if s < T then wsOf m W d s else if s = T then sumN i (fun j => if T.testBit j = true then W j d else 0) else 0
theorem wArr_len (m : Nat) (W : Nat → Nat → Int) (d T i : Nat) : (wArr m W d T i).length = 64 := by simp [wArr]
theorem wArr_at (m : Nat) (W : Nat → Nat → Int) (d T i : Nat) {s : Nat} (hs : s < 64) : gi (wArr m W d T i) s = if s < T then wsOf m W d s else if s = T then sumN i (fun j => if T.testBit j = true then W j d else 0) else 0 := by
  unfold gi
  rw [List.getD_eq_getElem?_getD]
  simp [wArr, hs]
theorem wsOf_0 (m : Nat) (W : Nat → Nat → Int) (d : Nat) : wsOf m W d 0 = 0 := sumN_zero m fun i _ => by simp
theorem wArr_start (m : Nat) (W : Nat → Nat → Int) (d : Nat) : wArr m W d 1 0 = zs 64 := by
  unfold wArr zs
  rw [List.map_congr_left (g := fun _ => (0 : Int)) fun s _ => by
    by_cases h : s < 1
    · rw [if_pos h, show s = 0 by omega, wsOf_0]
    · rw [if_neg h]; split <;> rfl]
  decide
theorem wArr_off (m : Nat) (W : Nat → Nat → Int) (d : Nat) {T i : Nat} (h : T.testBit i = false) : wArr m W d T (i + 1) = wArr m W d T i :=
  List.map_congr_left fun s _ => by
    split
    · rfl
    · split
      · rw [sumN, h]; simp
      · rfl
theorem wArr_next (m : Nat) (W : Nat → Nat → Int) (d T : Nat) : wArr m W d T m = wArr m W d (T + 1) 0 :=
  List.map_congr_left fun s _ => by
    by_cases h1 : s < T
    · rw [if_pos h1, if_pos (by omega)]
    · by_cases h2 : s = T
      · subst h2
        rw [if_neg (by omega), if_pos rfl, if_pos (by omega)]
        rfl
      · rw [if_neg h1, if_neg h2, if_neg (by omega)]
        split <;> rfl
theorem wArr_on (m : Nat) (W : Nat → Nat → Int) (d : Nat) {T i : Nat} (h : T.testBit i = true) (hT : T < 64) : wArr m W d T (i + 1) = (wArr m W d T i).set T (gi (wArr m W d T i) T + W i d) := by
  refine List.ext_getElem (by simp [wArr]) fun e h1 h2 => ?_
  rw [wArr_len] at h1
  have a1 : ∀ j (hh : e < (wArr m W d T j).length), (wArr m W d T j)[e] = gi (wArr m W d T j) e := fun j hh => by unfold gi; rw [List.getD_eq_getElem?_getD, List.getElem?_eq_getElem hh]; rfl
  rw [List.getElem_set, a1, a1, wArr_at m W d T _ h1, wArr_at m W d T _ h1, wArr_at m W d T _ hT]
  by_cases he : T = e
  · subst he
    rw [if_neg (by omega), if_pos rfl, if_pos rfl, if_neg (by omega), if_pos rfl, sumN, h, if_pos rfl]
  · rw [if_neg he]
    by_cases h3 : e < T
    · rw [if_pos h3, if_pos h3]
    · rw [if_neg h3, if_neg h3, if_neg (fun h => he h.symm), if_neg (fun h => he h.symm)]
theorem wArr_gi (m : Nat) (W : Nat → Nat → Int) (d : Nat) {T i s : Nat} (h : s < T) (hT : T ≤ 64) : gi (wArr m W d T i) s = wsOf m W d s := by
  rw [wArr_at m W d T i (by omega), if_pos h]
theorem wArr_b {W : Nat → Nat → Int} (hw : ∀ i d, 0 ≤ W i d ∧ W i d ≤ 1000) (m d T : Nat) {i : Nat} (s : Nat) (hi : i ≤ m) : 0 ≤ gi (wArr m W d T i) s ∧ gi (wArr m W d T i) s ≤ m * 1000 := by
  rcases Nat.lt_or_ge s 64 with hs | hs
  · rw [wArr_at m W d T i hs]
    have h1 := wsOf_b hw (m := m) d s
    have h2 : 0 ≤ sumN i (fun j => if T.testBit j = true then W j d else 0) ∧ sumN i (fun j => if T.testBit j = true then W j d else 0) ≤ i * 1000 :=
      ⟨sumN_nonneg i fun j _ => by split; exact (hw j d).1; exact Int.le_refl _, sumN_le i fun j _ => by split; exact (hw j d).2; decide⟩
    split
    · exact h1
    · split
      · omega
      · omega
  · unfold gi
    rw [List.getD_eq_getElem?_getD, List.getElem?_eq_none (by rw [wArr_len]; exact hs)]
    exact ⟨Int.le_refl 0, by show (0 : Int) ≤ _; omega⟩
theorem wo_lt {m s : Nat} (t : Nat) (h : s < 2 ^ m) : wo s t < 2 ^ m := Nat.xor_lt_two_pow h (Nat.lt_of_le_of_lt Nat.and_le_left h)
theorem bwTo_b {xs : List Plot} (hx : ∀ x ∈ xs, x.fine = true) {k m : Nat} (h6 : m ≤ 6) {cap : Nat → Int} {D : Nat} (hc : ∀ e, e < D → 0 ≤ cap e) {e : Nat} (he : e ≤ D) {s : Nat} (hs : s < 2 ^ m) : 0 ≤ gi (bwTo m (wtOf xs k) cap D e) s ∧ gi (bwTo m (wtOf xs k) cap D e) s ≤ m * 1000 := by
  have hw : ∀ i d, 0 ≤ wtOf xs k i d ∧ wtOf xs k i d ≤ 1000 := fun i d => worthAt_b hx _ _
  obtain ⟨c, _, _, h3⟩ := (bwTo_ok h6 (fun i d => (hw i d).1) hc e he).is s hs
  rw [← h3]
  exact ⟨pval_nonneg (fun i d => (hw i d).1) c, pval_b hw c⟩
end Go.Proofs.Ytdnofkngljjbmaa
namespace Go.Proofs.Ytdnofkngljjbmaa
set_option linter.unusedSimpArgs false
set_option linter.unusedVariables false
open Go.RowKit

theorem sumN_front (f : Nat → Int) : ∀ n, sumN (n + 1) f = f 0 + sumN n fun i => f (i + 1)
  | 0 => by simp [sumN]
  | n + 1 => by rw [sumN, sumN_front f n, sumN]; omega
theorem cntN_front (p : Nat → Bool) : ∀ n, cntN (n + 1) p = (if p 0 = true then 1 else 0) + cntN n fun i => p (i + 1)
  | 0 => by simp [cntN]
  | n + 1 => by rw [cntN, cntN_front p n, cntN]; omega
theorem capOf_snoc (h : Int) (p : List Int) (d : Int) (e : Nat) : capOf h (p ++ [d]) e = capOf h p e - if d = e then 1 else 0 := by
  unfold capOf
  rw [List.count_append, List.count_singleton]
  by_cases hd : d = (e : Int)
  · rw [if_pos hd, if_pos (by simpa using hd)]; omega
  · rw [if_neg hd, if_neg (by simpa using hd)]; omega
theorem baseOf_snoc {xs : List Plot} {p : List Int} (hk : p.length < xs.length) (d : Int) : baseOf xs (p ++ [d]) = baseOf xs p + if 0 ≤ d then wtOf xs p.length 0 d.toNat else 0 := by
  have hl : (p ++ [d]).length = p.length + 1 := by simp
  unfold baseOf
  rw [hl, sumTo]
  congr 1
  · refine sumTo_congr _ fun i hi => ?_
    unfold wOf
    rw [List.getElem?_take_of_lt (by omega), List.getElem?_take_of_lt hi, List.getElem?_append_left hi]
  · unfold wOf wtOf worthAt
    rw [List.getElem?_take_of_lt (by omega), List.getElem?_append_right (Nat.le_refl _), Nat.sub_self, Nat.add_zero, List.getElem?_eq_getElem hk]
    show (if 0 ≤ d then _ else _) = _
    by_cases h0 : 0 ≤ d
    · rw [if_pos h0, if_pos h0, show ((d.toNat : Nat) : Int) = d by omega]
    · rw [if_neg h0, if_neg h0]
theorem best_of {xs : List Plot} (hx : ∀ x ∈ xs, x.fine = true) {h : Int} {D : Nat} {p : List Int} {m : Nat} (hm : xs.length = p.length + m) (h6 : m ≤ 6) (hc : ∀ e, e < D → 0 ≤ capOf h p e) :
    Best m D (capOf h p) (wtOf xs p.length) (baseOf xs p) (mostOf xs h D p) := by
  rw [most_try hx hm h6 hc]
  exact bw_best h6 (fun i d => (worthAt_b hx _ _).1) hc
theorem most_shut {xs : List Plot} {h : Int} {D : Nat} {p : List Int} {e : Nat} (he : e < D) (hc : capOf h p e < 0) : mostOf xs h D p = -1 := by
  unfold mostOf
  rw [if_pos]
  rw [shut, List.any_eq_true]
  exact ⟨e, List.mem_range.2 he, decide_eq_true hc⟩
def consA (d : Int) (c : Nat → Int) : Nat → Int
  | 0 => d
  | i + 1 => c i
theorem pval_cons (xs : List Plot) (k m : Nat) (d : Int) (c : Nat → Int) : pval (m + 1) (wtOf xs k) (consA d c) = (if 0 ≤ d then wtOf xs k 0 d.toNat else 0) + pval m (wtOf xs (k + 1)) c := by
  unfold pval
  rw [sumN_front]
  congr 1
  refine sumN_congr m fun i _ => ?_
  show (if 0 ≤ c i then wtOf xs k (i + 1) (c i).toNat else 0) = _
  unfold wtOf
  rw [show k + (i + 1) = k + 1 + i by omega]
theorem asg_tail {m D : Nat} {h : Int} {p : List Int} {c : Nat → Int} (H : Asg (m + 1) 0 D (capOf h p) c) : Asg m 0 D (capOf h (p ++ [c 0])) fun i => c (i + 1) := by
  refine ⟨fun i hi => H.day (i + 1) (by omega), fun d h1 h2 => ?_⟩
  have := H.cap d h1 h2
  rw [cntN_front] at this
  rw [capOf_snoc]
  by_cases hd : c 0 = d
  · rw [if_pos (decide_eq_true hd)] at this
    rw [if_pos hd]
    omega
  · rw [if_neg (by rw [decide_eq_true_eq]; exact hd)] at this
    rw [if_neg hd]
    omega
theorem asg_cons {m D : Nat} {h : Int} {p : List Int} {d : Int} {c : Nat → Int} (hd : d = -1 ∨ (0 ≤ d ∧ d < D)) (H : Asg m 0 D (capOf h (p ++ [d])) c) : Asg (m + 1) 0 D (capOf h p) (consA d c) := by
  refine ⟨fun i hi => ?_, fun e h1 h2 => ?_⟩
  · match i with
    | 0 => exact hd
    | i + 1 => exact H.day i (by omega)
  · have := H.cap e h1 h2
    rw [capOf_snoc] at this
    rw [cntN_front]
    show (((if decide (d = (e : Int)) = true then 1 else 0) + cntN m (fun i => decide (c i = e)) : Nat) : Int) ≤ _
    by_cases hd : d = e
    · rw [if_pos hd] at this
      rw [if_pos (decide_eq_true hd)]
      omega
    · rw [if_neg hd] at this
      rw [if_neg (by rw [decide_eq_true_eq]; exact hd)]
      omega
/-- The day that the best plan has behind a beginning. -/
def bday (xs : List Plot) (h : Int) (D : Nat) (v : Int) (p : List Int) : Int := ((((List.range 21).find? fun j : Nat => decide (v ≤ mostOf xs h D (p ++ [(j : Int) - 1]))).getD 0 : Nat) : Int) - 1
def bpTo (xs : List Plot) (h : Int) (D : Nat) : Nat → List Int
  | 0 => []
  | k + 1 => bpTo xs h D k ++ [bday xs h D (mostOf xs h D []) (bpTo xs h D k)]
theorem bpTo_len (xs : List Plot) (h : Int) (D : Nat) : ∀ k, (bpTo xs h D k).length = k
  | 0 => rfl
  | k + 1 => by rw [bpTo, List.length_append, bpTo_len xs h D k]; rfl
theorem bday_at {xs : List Plot} {h : Int} {D : Nat} {v : Int} {p : List Int} {j : Nat} (hj : j ≤ 20) (h1 : v ≤ mostOf xs h D (p ++ [(j : Int) - 1])) (h2 : ∀ i : Nat, i < j → mostOf xs h D (p ++ [(i : Int) - 1]) < v) : bday xs h D v p = (j : Int) - 1 := by
  unfold bday
  rw [show (List.range 21).find? (fun j : Nat => decide (v ≤ mostOf xs h D (p ++ [(j : Int) - 1]))) = some j from
    List.find?_range_eq_some.2 ⟨decide_eq_true h1, List.mem_range.2 (by omega), fun i hi => by rw [decide_eq_false (by have := h2 i hi; omega)]; rfl⟩]
  rfl
structure BpOk (xs : List Plot) (h : Int) (D : Nat) (p : List Int) : Prop where
  days : ∀ d ∈ p, -1 ≤ d ∧ d < D
  caps : ∀ e, e < D → 0 ≤ capOf h p e
  val : mostOf xs h D p = mostOf xs h D []
section
variable {xs : List Plot} (hx : ∀ x ∈ xs, x.fine = true) (h6 : xs.length ≤ 6) {h : Int} (h0 : 0 ≤ h) {D : Nat}
include hx h6 in
theorem bp_le {p : List Int} (H : BpOk xs h D p) (hk : p.length < xs.length) {d : Int} (hd : d = -1 ∨ (0 ≤ d ∧ d < D)) : mostOf xs h D (p ++ [d]) ≤ mostOf xs h D [] := by
  have hl : (p ++ [d]).length = p.length + 1 := by simp
  have B := best_of hx (m := xs.length - p.length) (by omega) (by omega) H.caps
  rw [← H.val]
  by_cases hc : ∀ e, e < D → 0 ≤ capOf h (p ++ [d]) e
  · have B' := best_of hx (p := p ++ [d]) (m := xs.length - p.length - 1) (by rw [hl]; omega) (by omega) hc
    obtain ⟨c, c1, c2⟩ := B'.is
    have a := asg_cons hd c1
    rw [show xs.length - p.length - 1 + 1 = xs.length - p.length by omega] at a
    have := B.most _ a
    rw [show xs.length - p.length = xs.length - p.length - 1 + 1 by omega, pval_cons] at this
    rw [baseOf_snoc hk, hl] at c2
    omega
  · simp only [Classical.not_forall] at hc
    obtain ⟨e, he, hc⟩ := hc
    rw [most_shut he (by omega)]
    have := B.most noPlan (noPlan_asg _ 0 D fun d _ h => H.caps d h)
    rw [pval_noPlan] at this
    have := (baseOf_b hx p).1
    omega
include hx h6 in
theorem bp_is {p : List Int} (H : BpOk xs h D p) (hk : p.length < xs.length) : ∃ d : Int, (d = -1 ∨ (0 ≤ d ∧ d < D)) ∧ BpOk xs h D (p ++ [d]) := by
  have B := best_of hx (m := xs.length - p.length) (by omega) (by omega) H.caps
  obtain ⟨c, c1, c2⟩ := B.is
  obtain ⟨m, hm⟩ : ∃ m, xs.length - p.length = m + 1 := ⟨xs.length - p.length - 1, by omega⟩
  rw [hm] at c1 c2
  have hd : c 0 = -1 ∨ (0 ≤ c 0 ∧ c 0 < D) := c1.day 0 (by omega)
  have hl : (p ++ [c 0]).length = p.length + 1 := by simp
  have t := asg_tail c1
  have hc : ∀ e, e < D → 0 ≤ capOf h (p ++ [c 0]) e := fun e he => by
    have := t.cap e (by omega) he
    omega
  refine ⟨c 0, hd, fun d hd' => ?_, hc, ?_⟩
  · rcases List.mem_append.1 hd' with h | h
    · exact H.days d h
    · rw [List.mem_singleton] at h
      subst h
      rcases hd with h | h <;> omega
  · have B' := best_of hx (p := p ++ [c 0]) (m := m) (by rw [hl]; omega) (by omega) hc
    have h1 := B'.most _ t
    have h2 := bp_le hx h6 H hk hd
    have e1 := pval_cons xs p.length m (c 0) fun i => c (i + 1)
    rw [show (consA (c 0) fun i => c (i + 1)) = c from funext fun i => by cases i <;> rfl] at e1
    rw [baseOf_snoc hk, hl] at h1
    have := H.val
    omega
include hx h6 in
theorem bp_shut {p : List Int} (H : BpOk xs h D p) : 0 ≤ mostOf xs h D [] := by
  rw [← H.val]
  by_cases hl : p.length ≤ xs.length
  · have B := best_of hx (m := xs.length - p.length) (by omega) (by omega) H.caps
    have := B.most noPlan (noPlan_asg _ 0 D fun d _ h => H.caps d h)
    rw [pval_noPlan] at this
    have := (baseOf_b hx p).1
    omega
  · unfold mostOf
    rw [if_neg, show xs.length - p.length = 0 by omega]
    · have hb := (baseOf_b hx p).1
      have hf := (fwTo_ok (m := 0) (wt := wtOf xs p.length) (fun i d => (worthAt_b hx _ _).1) hb D H.caps).most 0 noPlan (by decide) (noPlan_asg _ 0 D fun d _ h => H.caps d h) (fun i hi => by omega)
      rw [pval_noPlan] at hf
      have hl := fwTo_len (m := 0) (wt := wtOf xs p.length) (capOf h p) (baseOf xs p) D
      have h0 : 0 < (fwTo 0 (wtOf xs p.length) (capOf h p) (baseOf xs p) D).length := by omega
      have := (maxL_le h0 _).1 (Int.le_refl _) (gi (fwTo 0 (wtOf xs p.length) (capOf h p) (baseOf xs p) D) 0) (by
        unfold gi
        rw [List.getD_eq_getElem?_getD, List.getElem?_eq_getElem h0]
        exact List.getElem_mem h0)
      omega
    · rw [shut, List.any_eq_true]
      rintro ⟨e, he1, he2⟩
      have := H.caps e (List.mem_range.1 he1)
      have := of_decide_eq_true he2
      omega
include hx h6 in
theorem bp_day {p : List Int} (H : BpOk xs h D p) (hD : D ≤ 20) (hk : p.length < xs.length) :
    ∃ j : Nat, j ≤ D ∧ bday xs h D (mostOf xs h D []) p = (j : Int) - 1 ∧ BpOk xs h D (p ++ [(j : Int) - 1]) ∧ ∀ i : Nat, i < j → mostOf xs h D (p ++ [(i : Int) - 1]) < mostOf xs h D [] := by
  obtain ⟨d, hd, Hd⟩ := bp_is hx h6 H hk
  have hv := bp_shut hx h6 H
  have ex : ∃ j : Nat, j ≤ D ∧ mostOf xs h D [] ≤ mostOf xs h D (p ++ [(j : Int) - 1]) := ⟨(d + 1).toNat, by rcases hd with h | h <;> omega, by rw [show (((d + 1).toNat : Nat) : Int) - 1 = d by rcases hd with h | h <;> omega, Hd.val]; exact Int.le_refl _⟩
  have least : ∀ n : Nat, (∃ j : Nat, j ≤ n ∧ mostOf xs h D [] ≤ mostOf xs h D (p ++ [(j : Int) - 1])) → ∃ j : Nat, j ≤ n ∧ mostOf xs h D [] ≤ mostOf xs h D (p ++ [(j : Int) - 1]) ∧ ∀ i : Nat, i < j → mostOf xs h D (p ++ [(i : Int) - 1]) < mostOf xs h D [] := by
    intro n
    induction n with
    | zero =>
      rintro ⟨j, hj, h1⟩
      exact ⟨j, hj, h1, fun i hi => by omega⟩
    | succ n ih =>
      rintro ⟨j, hj, h1⟩
      by_cases hn : ∃ j : Nat, j ≤ n ∧ mostOf xs h D [] ≤ mostOf xs h D (p ++ [(j : Int) - 1])
      · obtain ⟨j', a, b⟩ := ih hn
        exact ⟨j', by omega, b⟩
      · refine ⟨j, hj, h1, fun i hi => ?_⟩
        rcases Int.lt_or_le (mostOf xs h D (p ++ [(i : Int) - 1])) (mostOf xs h D []) with h | h
        · exact h
        · exact absurd ⟨i, by omega, h⟩ hn
  obtain ⟨j, hj, j1, j2⟩ := least D ex
  have hdj : ((j : Int) - 1 = -1 ∨ (0 ≤ (j : Int) - 1 ∧ (j : Int) - 1 < D)) := by omega
  have hle := bp_le hx h6 H hk hdj
  refine ⟨j, hj, bday_at (by omega) j1 j2, ⟨fun e he => ?_, fun e he => ?_, by omega⟩, j2⟩
  · rcases List.mem_append.1 he with h | h
    · exact H.days e h
    · rw [List.mem_singleton] at h
      omega
  · rcases Int.lt_or_le (capOf h (p ++ [(j : Int) - 1]) e) 0 with h | h
    · rw [most_shut he h] at j1
      omega
    · exact h
include hx h6 h0 in
theorem bp_ok (hD : D ≤ 20) : ∀ k, k ≤ xs.length → BpOk xs h D (bpTo xs h D k)
  | 0, _ => ⟨fun d h => absurd h (by simp [bpTo]), fun e _ => by unfold bpTo capOf; simp; exact h0, rfl⟩
  | k + 1, hk => by
    have H := bp_ok hD k (by omega)
    obtain ⟨j, _, j1, j2, _⟩ := bp_day hx h6 H hD (by rw [bpTo_len]; omega)
    rw [bpTo, j1]
    exact j2
include hx h6 h0 in
theorem bp_sum (hD : D ≤ 20) : mostOf xs h D [] = baseOf xs (bpTo xs h D xs.length) := by
  have H := bp_ok hx h6 h0 hD xs.length (Nat.le_refl _)
  have B := best_of hx (p := bpTo xs h D xs.length) (m := 0) (by rw [bpTo_len]; rfl) (by omega) H.caps
  obtain ⟨c, _, c2⟩ := B.is
  have := H.val
  have : pval 0 (wtOf xs (bpTo xs h D xs.length).length) c = 0 := rfl
  omega
end
end Go.Proofs.Ytdnofkngljjbmaa
