/- Texts of a proof, laid together: MostP, Ty. -/
import Derived.Test.YtdnofkngljjbmaaZP00
import Derived.Test.YtdnofkngljjbmaaZP01
import Derived.Test.YtdnofkngljjbmaaProg
import Derived.KernelRfl
namespace Go.Proofs.Ytdnofkngljjbmaa
set_option linter.unusedSimpArgs false
set_option linter.unusedVariables false

def upMax (l : List Int) (i : Nat) (v : Int) : List Int := l.set i (max (gi l i) v)
theorem upMax_len (l : List Int) (i : Nat) (v : Int) : (upMax l i v).length = l.length := by simp [upMax]
theorem gi_set (l : List Int) (i : Nat) (v : Int) (j : Nat) (h : i < l.length) : gi (l.set i v) j = if i = j then v else gi l j := by
  unfold gi
  rw [List.getD_eq_getElem?_getD, List.getElem?_set]
  by_cases hij : i = j
  · subst hij
    simp [h]
  · rw [if_neg hij, if_neg hij, List.getD_eq_getElem?_getD]
theorem gi_upMax (l : List Int) (i : Nat) (v : Int) (j : Nat) (h : i < l.length) : gi (upMax l i v) j = if i = j then max (gi l i) v else gi l j := gi_set l i _ j h
/-! ### Forward -/
section
variable (m : Nat) (wt : Nat → Nat → Int)
def fwIn (d : Nat) (cap : Int) (F : List Int) (s : Nat) (l : List Int) : Nat → List Int
  | 0 => l
  | t + 1 => if s &&& t = 0 ∧ (popM m t : Int) ≤ cap then upMax (fwIn d cap F s l t) (s ||| t) (gi F s + wsOf m wt d t) else fwIn d cap F s l t
def fwOut (d : Nat) (cap : Int) (F : List Int) : Nat → List Int
  | 0 => F
  | s + 1 => if gi F s < 0 then fwOut d cap F s else fwIn m wt d cap F s (fwOut d cap F s) (2 ^ m)
def fwTo (cap : Nat → Int) (base : Int) : Nat → List Int
  | 0 => base :: List.replicate (2 ^ m - 1) (-1)
  | d + 1 => fwOut m wt d (cap d) (fwTo cap base d) (2 ^ m)
end
section
variable {m : Nat} {wt : Nat → Nat → Int}
theorem fwIn_len (d : Nat) (cap : Int) (F : List Int) (s : Nat) (l : List Int) : ∀ t, (fwIn m wt d cap F s l t).length = l.length
  | 0 => rfl
  | t + 1 => by
    rw [fwIn]
    split
    · rw [upMax_len, fwIn_len d cap F s l t]
    · exact fwIn_len d cap F s l t
theorem fwOut_len (d : Nat) (cap : Int) (F : List Int) : ∀ s, (fwOut m wt d cap F s).length = F.length
  | 0 => rfl
  | s + 1 => by
    rw [fwOut]
    split
    · exact fwOut_len d cap F s
    · rw [fwIn_len, fwOut_len d cap F s]
theorem fwTo_len (cap : Nat → Int) (base : Int) : ∀ d, (fwTo m wt cap base d).length = 2 ^ m
  | 0 => by have := Nat.two_pow_pos m; rw [fwTo, List.length_cons, List.length_replicate]; omega
  | d + 1 => by rw [fwTo, fwOut_len, fwTo_len cap base d]
theorem fwIn_ge (d : Nat) (cap : Int) (F : List Int) {s : Nat} (hs : s < 2 ^ m) (l : List Int) (hl : l.length = 2 ^ m) (j : Nat) : ∀ t, t ≤ 2 ^ m → gi l j ≤ gi (fwIn m wt d cap F s l t) j
  | 0, _ => Int.le_refl _
  | t + 1, ht => by
    have ih := fwIn_ge d cap F hs l hl j t (by omega)
    rw [fwIn]
    split
    · rw [gi_upMax _ _ _ _ (by rw [fwIn_len, hl]; exact Nat.or_lt_two_pow hs (by omega))]
      split
      · rename_i he
        rw [he]
        omega
      · exact ih
    · exact ih
theorem fwIn_up (d : Nat) (cap : Int) (F : List Int) {s : Nat} (hs : s < 2 ^ m) (l : List Int) (hl : l.length = 2 ^ m) {k : Nat} (h1 : s &&& k = 0) (h2 : (popM m k : Int) ≤ cap) : ∀ t, t ≤ 2 ^ m → k < t → gi F s + wsOf m wt d k ≤ gi (fwIn m wt d cap F s l t) (s ||| k)
  | t + 1, ht, hk => by
    rw [fwIn]
    have hlt : s ||| t < (fwIn m wt d cap F s l t).length := by rw [fwIn_len, hl]; exact Nat.or_lt_two_pow hs (by omega)
    rcases Nat.lt_or_ge k t with h3 | h3
    · have ih := fwIn_up d cap F hs l hl h1 h2 t (by omega) h3
      split
      · rw [gi_upMax _ _ _ _ hlt]
        split
        · rename_i he
          rw [he]
          omega
        · exact ih
      · exact ih
    · have : k = t := by omega
      subst this
      rw [if_pos ⟨h1, h2⟩, gi_upMax _ _ _ _ hlt, if_pos rfl]
      omega
theorem fwIn_from (d : Nat) (cap : Int) (F : List Int) {s : Nat} (hs : s < 2 ^ m) (l : List Int) (hl : l.length = 2 ^ m) (j : Nat) : ∀ t, t ≤ 2 ^ m → gi (fwIn m wt d cap F s l t) j = gi l j ∨ ∃ k, k < 2 ^ m ∧ s &&& k = 0 ∧ (popM m k : Int) ≤ cap ∧ s ||| k = j ∧ gi (fwIn m wt d cap F s l t) j = gi F s + wsOf m wt d k
  | 0, _ => .inl rfl
  | t + 1, ht => by
    have ih := fwIn_from d cap F hs l hl j t (by omega)
    rw [fwIn]
    split
    · rename_i hc
      rw [gi_upMax _ _ _ _ (by rw [fwIn_len, hl]; exact Nat.or_lt_two_pow hs (by omega))]
      split
      · rename_i he
        by_cases hm : gi (fwIn m wt d cap F s l t) (s ||| t) ≤ gi F s + wsOf m wt d t
        · exact .inr ⟨t, by omega, hc.1, hc.2, he, by omega⟩
        · rw [he] at hm ⊢
          rw [show max (gi (fwIn m wt d cap F s l t) j) (gi F s + wsOf m wt d t) = gi (fwIn m wt d cap F s l t) j by omega]
          exact ih
      · exact ih
    · exact ih
theorem fwOut_ge (d : Nat) (cap : Int) (F : List Int) (hF : F.length = 2 ^ m) (j : Nat) : ∀ s, s ≤ 2 ^ m → gi F j ≤ gi (fwOut m wt d cap F s) j
  | 0, _ => Int.le_refl _
  | s + 1, h => by
    have ih := fwOut_ge d cap F hF j s (by omega)
    rw [fwOut]
    split
    · exact ih
    · have := fwIn_ge (wt := wt) d cap F (s := s) (by omega) (fwOut m wt d cap F s) (by rw [fwOut_len, hF]) j (2 ^ m) (Nat.le_refl _)
      omega
theorem fwOut_up (d : Nat) (cap : Int) (F : List Int) (hF : F.length = 2 ^ m) {a k : Nat} (hk : k < 2 ^ m) (h0 : 0 ≤ gi F a) (h1 : a &&& k = 0) (h2 : (popM m k : Int) ≤ cap) : ∀ s, s ≤ 2 ^ m → a < s → gi F a + wsOf m wt d k ≤ gi (fwOut m wt d cap F s) (a ||| k)
  | s + 1, h, ha => by
    rw [fwOut]
    rcases Nat.lt_or_ge a s with h3 | h3
    · have ih := fwOut_up d cap F hF hk h0 h1 h2 s (by omega) h3
      split
      · exact ih
      · have := fwIn_ge (wt := wt) d cap F (s := s) (by omega) (fwOut m wt d cap F s) (by rw [fwOut_len, hF]) (a ||| k) (2 ^ m) (Nat.le_refl _)
        omega
    · have : a = s := by omega
      subst this
      rw [if_neg (by omega)]
      exact fwIn_up d cap F (by omega) _ (by rw [fwOut_len, hF]) h1 h2 _ (Nat.le_refl _) hk
theorem fwOut_from (d : Nat) (cap : Int) (F : List Int) (hF : F.length = 2 ^ m) (j : Nat) : ∀ s, s ≤ 2 ^ m → gi (fwOut m wt d cap F s) j = gi F j ∨ ∃ a k, a < 2 ^ m ∧ k < 2 ^ m ∧ a &&& k = 0 ∧ (popM m k : Int) ≤ cap ∧ 0 ≤ gi F a ∧ a ||| k = j ∧ gi (fwOut m wt d cap F s) j = gi F a + wsOf m wt d k
  | 0, _ => .inl rfl
  | s + 1, h => by
    have ih := fwOut_from d cap F hF j s (by omega)
    rw [fwOut]
    split
    · exact ih
    · rcases fwIn_from (wt := wt) d cap F (s := s) (by omega) (fwOut m wt d cap F s) (by rw [fwOut_len, hF]) j (2 ^ m) (Nat.le_refl _) with he | ⟨k, k1, k2, k3, k4, k5⟩
      · rw [he]; exact ih
      · exact .inr ⟨s, k, by omega, k1, k2, k3, by omega, k4, k5⟩
theorem fwTo_ok (hw : ∀ i d, 0 ≤ wt i d) {cap : Nat → Int} {base : Int} (hb : 0 ≤ base) : ∀ D, (∀ d, d < D → 0 ≤ cap d) → FOk m cap wt base D (gi (fwTo m wt cap base D))
  | 0, _ => by
    refine FOk.start rfl fun s hs hlt => ?_
    cases s with
    | zero => exact absurd rfl hs
    | succ s =>
      have h1 := Nat.two_pow_pos m
      have : gi (fwTo m wt cap base 0) (s + 1) = -1 := by
        unfold gi
        rw [fwTo, List.getD_eq_getElem?_getD, List.getElem?_cons_succ, List.getElem?_replicate, if_pos (by omega)]
        rfl
      omega
  | D + 1, h => by
    have hl := fwTo_len (m := m) (wt := wt) cap base D
    exact FOk.step hb hw (fwTo_ok hw hb D fun d hd => h d (by omega)) (h D (by omega))
      (fun s t hs ht h1 h2 h3 => fwOut_up D (cap D) _ hl ht h3 h1 h2 _ (Nat.le_refl _) hs)
      (fun s hs _ => fwOut_from D (cap D) _ hl s _ (Nat.le_refl _))
end
/-! ### Backward -/
/-- What is in one set and not in another one. -/
def wo (s t : Nat) : Nat := s ^^^ (s &&& t)
theorem wo_bit (s t i : Nat) : (wo s t).testBit i = (s.testBit i && !t.testBit i) := by
  rw [wo, Nat.testBit_xor, Nat.testBit_and]
  cases s.testBit i <;> cases t.testBit i <;> rfl
theorem wo_split {s t : Nat} (h : wo t s = 0) : wo s t &&& t = 0 ∧ wo s t ||| t = s := by
  have hb : ∀ i, t.testBit i = true → s.testBit i = true := fun i hi => by
    have := congrArg (fun x => x.testBit i) h
    simp only [wo_bit, Nat.zero_testBit, hi, Bool.true_and, Bool.not_eq_false'] at this
    exact this
  constructor
  · refine Nat.eq_of_testBit_eq fun i => ?_
    rw [Nat.testBit_and, wo_bit, Nat.zero_testBit]
    cases t.testBit i <;> simp
  · refine Nat.eq_of_testBit_eq fun i => ?_
    rw [Nat.testBit_or, wo_bit]
    cases ht : t.testBit i
    · simp
    · rw [hb i ht]; rfl
theorem wo_of {r t : Nat} (h : r &&& t = 0) : wo (r ||| t) t = r ∧ wo t (r ||| t) = 0 := by
  constructor
  · refine Nat.eq_of_testBit_eq fun i => ?_
    have := and_zero_bit h i
    rw [wo_bit, Nat.testBit_or]
    cases hr : r.testBit i <;> cases ht : t.testBit i <;> simp_all
  · refine Nat.eq_of_testBit_eq fun i => ?_
    rw [wo_bit, Nat.testBit_or, Nat.zero_testBit]
    cases r.testBit i <;> cases t.testBit i <;> rfl
section
variable (m : Nat) (wt : Nat → Nat → Int)
def bwIn (W : Int) (N : List Int) (t : Nat) (l : List Int) : Nat → List Int
  | 0 => l
  | k + 1 => if wo t (t + k) = 0 then upMax (bwIn W N t l k) (t + k) (W + gi N (wo (t + k) t)) else bwIn W N t l k
def bwOut (d : Nat) (cap : Int) (N : List Int) : Nat → List Int
  | 0 => N
  | n + 1 => if cap < (popM m (n + 1) : Int) ∨ wsOf m wt d (n + 1) = 0 then bwOut d cap N n else bwIn (wsOf m wt d (n + 1)) N (n + 1) (bwOut d cap N n) (2 ^ m - (n + 1))
def bwTo (cap : Nat → Int) (D : Nat) : Nat → List Int
  | 0 => List.replicate 64 0
  | e + 1 => bwOut m wt (D - (e + 1)) (cap (D - (e + 1))) (bwTo cap D e) (2 ^ m - 1)
end
section
variable {m : Nat} {wt : Nat → Nat → Int}
theorem bwIn_len (W : Int) (N : List Int) (t : Nat) (l : List Int) : ∀ k, (bwIn W N t l k).length = l.length
  | 0 => rfl
  | k + 1 => by
    rw [bwIn]
    split
    · rw [upMax_len, bwIn_len W N t l k]
    · exact bwIn_len W N t l k
theorem bwOut_len (d : Nat) (cap : Int) (N : List Int) : ∀ n, (bwOut m wt d cap N n).length = N.length
  | 0 => rfl
  | n + 1 => by
    rw [bwOut]
    split
    · exact bwOut_len d cap N n
    · rw [bwIn_len, bwOut_len d cap N n]
theorem bwTo_len (cap : Nat → Int) (D : Nat) : ∀ e, (bwTo m wt cap D e).length = 64
  | 0 => by simp [bwTo]
  | e + 1 => by rw [bwTo, bwOut_len, bwTo_len cap D e]
theorem bwIn_ge (W : Int) (N : List Int) (t : Nat) (l : List Int) (j : Nat) : ∀ k, t + k ≤ l.length → gi l j ≤ gi (bwIn W N t l k) j
  | 0, _ => Int.le_refl _
  | k + 1, h => by
    have ih := bwIn_ge W N t l j k (by omega)
    rw [bwIn]
    split
    · rw [gi_upMax _ _ _ _ (by rw [bwIn_len]; omega)]
      split
      · rename_i he
        rw [he]
        omega
      · exact ih
    · exact ih
theorem bwIn_up (W : Int) (N : List Int) (t : Nat) (l : List Int) {q : Nat} (h1 : wo t (t + q) = 0) : ∀ k, t + k ≤ l.length → q < k → W + gi N (wo (t + q) t) ≤ gi (bwIn W N t l k) (t + q)
  | k + 1, h, hq => by
    rw [bwIn]
    have hlt : t + k < (bwIn W N t l k).length := by rw [bwIn_len]; omega
    rcases Nat.lt_or_ge q k with h3 | h3
    · have ih := bwIn_up W N t l h1 k (by omega) h3
      split
      · rw [gi_upMax _ _ _ _ hlt, if_neg (by omega)]
        exact ih
      · exact ih
    · have : q = k := by omega
      subst this
      rw [if_pos h1, gi_upMax _ _ _ _ hlt, if_pos rfl]
      omega
theorem bwIn_from (W : Int) (N : List Int) (t : Nat) (l : List Int) (j : Nat) : ∀ k, t + k ≤ l.length → gi (bwIn W N t l k) j = gi l j ∨ (wo t j = 0 ∧ gi (bwIn W N t l k) j = W + gi N (wo j t))
  | 0, _ => .inl rfl
  | k + 1, h => by
    have ih := bwIn_from W N t l j k (by omega)
    rw [bwIn]
    split
    · rename_i hc
      rw [gi_upMax _ _ _ _ (by rw [bwIn_len]; omega)]
      split
      · rename_i he
        rw [he] at hc ⊢
        by_cases hm : gi (bwIn W N t l k) j ≤ W + gi N (wo j t)
        · exact .inr ⟨hc, by omega⟩
        · rw [show max (gi (bwIn W N t l k) j) (W + gi N (wo j t)) = gi (bwIn W N t l k) j by omega]
          exact ih
      · exact ih
    · exact ih
theorem bwOut_ge (d : Nat) (cap : Int) (N : List Int) (hN : 2 ^ m ≤ N.length) (j : Nat) : ∀ n, n + 1 ≤ 2 ^ m → gi N j ≤ gi (bwOut m wt d cap N n) j
  | 0, _ => Int.le_refl _
  | n + 1, h => by
    have ih := bwOut_ge d cap N hN j n (by omega)
    rw [bwOut]
    split
    · exact ih
    · have := bwIn_ge (wsOf m wt d (n + 1)) N (n + 1) (bwOut m wt d cap N n) j (2 ^ m - (n + 1)) (by rw [bwOut_len]; omega)
      omega
theorem bwOut_up (d : Nat) (cap : Int) (N : List Int) (hN : 2 ^ m ≤ N.length) {s t : Nat} (hs : s < 2 ^ m) (ht : t ≠ 0) (hw : wo t s = 0) (hp : (popM m t : Int) ≤ cap) (h0 : wsOf m wt d t ≠ 0) : ∀ n, n + 1 ≤ 2 ^ m → t ≤ n → wsOf m wt d t + gi N (wo s t) ≤ gi (bwOut m wt d cap N n) s
  | 0, _, h => absurd (by omega) ht
  | n + 1, h, hn => by
    rw [bwOut]
    rcases Nat.lt_or_ge t (n + 1) with h3 | h3
    · have ih := bwOut_up d cap N hN hs ht hw hp h0 n (by omega) (by omega)
      split
      · exact ih
      · have := bwIn_ge (wsOf m wt d (n + 1)) N (n + 1) (bwOut m wt d cap N n) s (2 ^ m - (n + 1)) (by rw [bwOut_len]; omega)
        omega
    · have hte : t = n + 1 := by omega
      subst hte
      rw [if_neg (by omega)]
      have hle : n + 1 ≤ s := by
        have h2 := (wo_split hw).2
        have : n + 1 ≤ wo s (n + 1) ||| (n + 1) := Nat.right_le_or
        omega
      have hsplit : s = (n + 1) + (s - (n + 1)) := by omega
      have := bwIn_up (wsOf m wt d (n + 1)) N (n + 1) (bwOut m wt d cap N n) (q := s - (n + 1)) (by rw [← hsplit]; exact hw) (2 ^ m - (n + 1)) (by rw [bwOut_len]; omega) (by omega)
      rw [← hsplit] at this
      exact this
theorem bwOut_from (d : Nat) (cap : Int) (N : List Int) (hN : 2 ^ m ≤ N.length) (j : Nat) : ∀ n, n + 1 ≤ 2 ^ m → gi (bwOut m wt d cap N n) j = gi N j ∨ ∃ t, t < 2 ^ m ∧ wo t j = 0 ∧ (popM m t : Int) ≤ cap ∧ gi (bwOut m wt d cap N n) j = wsOf m wt d t + gi N (wo j t)
  | 0, _ => .inl rfl
  | n + 1, h => by
    have ih := bwOut_from d cap N hN j n (by omega)
    rw [bwOut]
    split
    · exact ih
    · rename_i hc
      rcases bwIn_from (wsOf m wt d (n + 1)) N (n + 1) (bwOut m wt d cap N n) j (2 ^ m - (n + 1)) (by rw [bwOut_len]; omega) with he | ⟨h1, h2⟩
      · rw [he]; exact ih
      · exact .inr ⟨n + 1, by omega, h1, by omega, h2⟩
theorem bwTo_ok (hm : m ≤ 6) (hw : ∀ i d, 0 ≤ wt i d) {cap : Nat → Int} {D : Nat} (hc : ∀ d, d < D → 0 ≤ cap d) : ∀ e, e ≤ D → BOk m cap wt D (D - e) (gi (bwTo m wt cap D e))
  | 0, _ => by
    refine BOk.start fun s hs => ?_
    unfold gi
    rw [bwTo, List.getD_eq_getElem?_getD, List.getElem?_replicate]
    split <;> rfl
  | e + 1, h => by
    have hl := bwTo_len (m := m) (wt := wt) cap D e
    have h64 : 2 ^ m ≤ 64 := Nat.le_trans (Nat.pow_le_pow_right (by omega) hm) (by decide : 2 ^ 6 ≤ 64)
    have hp := Nat.two_pow_pos m
    have ih := bwTo_ok hm hw hc e (by omega)
    rw [show D - e = D - (e + 1) + 1 by omega] at ih
    refine BOk.step hw (by omega) ih (hc _ (by omega)) (fun s hs => bwOut_ge _ _ _ (by rw [hl]; exact h64) s _ (by omega)) ?_ ?_
    · intro s t r hs ht hz hrt hor hpop hws
      subst hor
      have h1 := wo_of hrt
      have := bwOut_up (wt := wt) (D - (e + 1)) (cap (D - (e + 1))) (bwTo m wt cap D e) (by rw [hl]; exact h64) hs hz h1.2 hpop hws (2 ^ m - 1) (by omega) (by omega)
      rw [h1.1] at this
      exact this
    · intro s hs
      rcases bwOut_from (wt := wt) (D - (e + 1)) (cap (D - (e + 1))) (bwTo m wt cap D e) (by rw [hl]; exact h64) s (2 ^ m - 1) (by omega) with he | ⟨t, t1, t2, t3, t4⟩
      · exact .inl he
      · obtain ⟨z1, z2⟩ := wo_split t2
        exact .inr ⟨t, wo s t, t1, z1, z2, t3, t4⟩
/-- Both ways lead to the greatest worth. -/
theorem fw_best (hw : ∀ i d, 0 ≤ wt i d) {cap : Nat → Int} {base : Int} (hb : 0 ≤ base) {D : Nat} (hc : ∀ d, d < D → 0 ≤ cap d) {v : Int} (hv : v ∈ fwTo m wt cap base D) (hm : ∀ x ∈ fwTo m wt cap base D, x ≤ v) : Best m D cap wt base v := by
  have hl := fwTo_len (m := m) (wt := wt) cap base D
  refine (fwTo_ok hw hb D hc).done hb hc ?_ fun s hs => ?_
  · obtain ⟨s, hs, he⟩ := List.getElem_of_mem hv
    refine ⟨s, by rw [← hl]; exact hs, ?_⟩
    unfold gi
    rw [List.getD_eq_getElem?_getD, List.getElem?_eq_getElem hs, he]
    rfl
  · refine hm _ ?_
    unfold gi
    rw [List.getD_eq_getElem?_getD, List.getElem?_eq_getElem (by rw [hl]; exact hs)]
    exact List.getElem_mem _
theorem bw_best (hm : m ≤ 6) (hw : ∀ i d, 0 ≤ wt i d) {cap : Nat → Int} {base : Int} {D : Nat} (hc : ∀ d, d < D → 0 ≤ cap d) : Best m D cap wt base (gi (bwTo m wt cap D D) (2 ^ m - 1) + base) := by
  have := bwTo_ok hm hw hc D (Nat.le_refl _)
  rw [Nat.sub_self] at this
  exact this.done rfl
end
end Go.Proofs.Ytdnofkngljjbmaa
namespace Go.Proofs.Ytdnofkngljjbmaa
set_option linter.unusedSimpArgs false
set_option linter.unusedVariables false
theorem sz1 : (Try.prog.info? 1).map (·.size) = some 1 := by kernel_rfl
theorem sz2 : (Try.prog.info? 2).map (·.size) = some 1 := by kernel_rfl
theorem sz3 : (Try.prog.info? 3).map (·.size) = some 1 := by kernel_rfl
theorem sz4 : (Try.prog.info? 4).map (·.size) = some 1 := by kernel_rfl
theorem sz5 : (Try.prog.info? 5).map (·.size) = some 1 := by kernel_rfl
theorem sz9 : (Try.prog.info? 9).map (·.size) = some 1 := by kernel_rfl
theorem sz12 : (Try.prog.info? 12).map (·.size) = some 1 := by kernel_rfl
theorem sz21 : (Try.prog.info? 21).map (·.size) = some 1 := by kernel_rfl
theorem sz22 : (Try.prog.info? 22).map (·.size) = some 1 := by kernel_rfl
theorem sz23 : (Try.prog.info? 23).map (·.size) = some 1 := by kernel_rfl
theorem sz24 : (Try.prog.info? 24).map (·.size) = some 1 := by kernel_rfl
theorem sz25 : (Try.prog.info? 25).map (·.size) = some 1 := by kernel_rfl
theorem sz26 : (Try.prog.info? 26).map (·.size) = some 1 := by kernel_rfl
theorem sz27 : (Try.prog.info? 27).map (·.size) = some 1 := by kernel_rfl
theorem sz29 : (Try.prog.info? 29).map (·.size) = some 1 := by kernel_rfl
theorem sz31 : (Try.prog.info? 31).map (·.size) = some 1 := by kernel_rfl
theorem sz32 : (Try.prog.info? 32).map (·.size) = some 1 := by kernel_rfl
theorem sz34 : (Try.prog.info? 34).map (·.size) = some 1 := by kernel_rfl
theorem sz35 : (Try.prog.info? 35).map (·.size) = some 1 := by kernel_rfl
theorem sz36 : (Try.prog.info? 36).map (·.size) = some 1 := by kernel_rfl
theorem sz37 : (Try.prog.info? 37).map (·.size) = some 1 := by kernel_rfl
theorem sz38 : (Try.prog.info? 38).map (·.size) = some 1 := by kernel_rfl
theorem sz39 : (Try.prog.info? 39).map (·.size) = some 4 := by kernel_rfl
theorem sz40 : (Try.prog.info? 40).map (·.size) = some 4 := by kernel_rfl
theorem sz42 : (Try.prog.info? 42).map (·.size) = some 1 := by kernel_rfl
theorem sz43 : (Try.prog.info? 43).map (·.size) = some 1 := by kernel_rfl
theorem sz44 : (Try.prog.info? 44).map (·.size) = some 1 := by kernel_rfl
theorem sz45 : (Try.prog.info? 45).map (·.size) = some 1 := by kernel_rfl
theorem sz46 : (Try.prog.info? 46).map (·.size) = some 100 := by kernel_rfl
theorem sz47 : (Try.prog.info? 47).map (·.size) = some 100 := by kernel_rfl
theorem sz48 : (Try.prog.info? 48).map (·.size) = some 202 := by kernel_rfl
theorem sz49 : (Try.prog.info? 49).map (·.size) = some 202 := by kernel_rfl
theorem sz50 : (Try.prog.info? 50).map (·.size) = some 1 := by kernel_rfl
theorem sz51 : (Try.prog.info? 51).map (·.size) = some 3 := by kernel_rfl
theorem sz52 : (Try.prog.info? 52).map (·.size) = some 3 := by kernel_rfl
theorem sz53 : (Try.prog.info? 53).map (·.size) = some 1 := by kernel_rfl
theorem sz54 : (Try.prog.info? 54).map (·.size) = some 1 := by kernel_rfl
theorem sz55 : (Try.prog.info? 55).map (·.size) = some 2 := by kernel_rfl
theorem sz56 : (Try.prog.info? 56).map (·.size) = some 2 := by kernel_rfl
theorem sz57 : (Try.prog.info? 57).map (·.size) = some 1 := by kernel_rfl
theorem sz58 : (Try.prog.info? 58).map (·.size) = some 1 := by kernel_rfl
theorem sz60 : (Try.prog.info? 60).map (·.size) = some 1 := by kernel_rfl
theorem sz61 : (Try.prog.info? 61).map (·.size) = some 1 := by kernel_rfl
theorem sz62 : (Try.prog.info? 62).map (·.size) = some 1 := by kernel_rfl
theorem sz64 : (Try.prog.info? 64).map (·.size) = some 1 := by kernel_rfl
theorem sz65 : (Try.prog.info? 65).map (·.size) = some 1 := by kernel_rfl
theorem sz66 : (Try.prog.info? 66).map (·.size) = some 1 := by kernel_rfl
theorem sz67 : (Try.prog.info? 67).map (·.size) = some 1 := by kernel_rfl
theorem sz69 : (Try.prog.info? 69).map (·.size) = some 1 := by kernel_rfl
theorem sz70 : (Try.prog.info? 70).map (·.size) = some 1 := by kernel_rfl
theorem sz72 : (Try.prog.info? 72).map (·.size) = some 1 := by kernel_rfl
theorem sz73 : (Try.prog.info? 73).map (·.size) = some 4 := by kernel_rfl
theorem sz74 : (Try.prog.info? 74).map (·.size) = some 4 := by kernel_rfl
theorem sz75 : (Try.prog.info? 75).map (·.size) = some 1 := by kernel_rfl
theorem sz76 : (Try.prog.info? 76).map (·.size) = some 1 := by kernel_rfl
theorem sz77 : (Try.prog.info? 77).map (·.size) = some 202 := by kernel_rfl
theorem sz78 : (Try.prog.info? 78).map (·.size) = some 3 := by kernel_rfl
theorem sz79 : (Try.prog.info? 79).map (·.size) = some 1 := by kernel_rfl
theorem sz80 : (Try.prog.info? 80).map (·.size) = some 1 := by kernel_rfl
theorem sz81 : (Try.prog.info? 81).map (·.size) = some 1 := by kernel_rfl
theorem sz82 : (Try.prog.info? 82).map (·.size) = some 1 := by kernel_rfl
theorem sz83 : (Try.prog.info? 83).map (·.size) = some 1 := by kernel_rfl
theorem sz84 : (Try.prog.info? 84).map (·.size) = some 1 := by kernel_rfl
theorem sz85 : (Try.prog.info? 85).map (·.size) = some 1 := by kernel_rfl
theorem sz86 : (Try.prog.info? 86).map (·.size) = some 1 := by kernel_rfl
theorem sz87 : (Try.prog.info? 87).map (·.size) = some 1 := by kernel_rfl
theorem sz88 : (Try.prog.info? 88).map (·.size) = some 1 := by kernel_rfl
theorem sz89 : (Try.prog.info? 89).map (·.size) = some 1 := by kernel_rfl
theorem sz90 : (Try.prog.info? 90).map (·.size) = some 1 := by kernel_rfl
theorem sz91 : (Try.prog.info? 91).map (·.size) = some 1 := by kernel_rfl
theorem sz92 : (Try.prog.info? 92).map (·.size) = some 1 := by kernel_rfl
theorem sz93 : (Try.prog.info? 93).map (·.size) = some 1 := by kernel_rfl
theorem sz94 : (Try.prog.info? 94).map (·.size) = some 1 := by kernel_rfl
theorem sz95 : (Try.prog.info? 95).map (·.size) = some 1 := by kernel_rfl
theorem sz96 : (Try.prog.info? 96).map (·.size) = some 1 := by kernel_rfl
theorem sz97 : (Try.prog.info? 97).map (·.size) = some 1 := by kernel_rfl
theorem sz98 : (Try.prog.info? 98).map (·.size) = some 20 := by kernel_rfl
theorem sz99 : (Try.prog.info? 99).map (·.size) = some 1 := by kernel_rfl
theorem sz100 : (Try.prog.info? 100).map (·.size) = some 1 := by kernel_rfl
theorem sz101 : (Try.prog.info? 101).map (·.size) = some 1 := by kernel_rfl
theorem sz102 : (Try.prog.info? 102).map (·.size) = some 1 := by kernel_rfl
theorem sz103 : (Try.prog.info? 103).map (·.size) = some 1 := by kernel_rfl
theorem sz104 : (Try.prog.info? 104).map (·.size) = some 1 := by kernel_rfl
theorem sz105 : (Try.prog.info? 105).map (·.size) = some 1 := by kernel_rfl
theorem sz106 : (Try.prog.info? 106).map (·.size) = some 1 := by kernel_rfl
theorem sz107 : (Try.prog.info? 107).map (·.size) = some 1 := by kernel_rfl
theorem sz108 : (Try.prog.info? 108).map (·.size) = some 1 := by kernel_rfl
theorem sz109 : (Try.prog.info? 109).map (·.size) = some 1 := by kernel_rfl
theorem sz110 : (Try.prog.info? 110).map (·.size) = some 1 := by kernel_rfl
theorem sz111 : (Try.prog.info? 111).map (·.size) = some 1 := by kernel_rfl
theorem sz112 : (Try.prog.info? 112).map (·.size) = some 1 := by kernel_rfl
theorem sz113 : (Try.prog.info? 113).map (·.size) = some 1 := by kernel_rfl
theorem sz114 : (Try.prog.info? 114).map (·.size) = some 1 := by kernel_rfl
theorem sz115 : (Try.prog.info? 115).map (·.size) = some 1 := by kernel_rfl
theorem sz116 : (Try.prog.info? 116).map (·.size) = some 1 := by kernel_rfl
theorem sz117 : (Try.prog.info? 117).map (·.size) = some 1 := by kernel_rfl
theorem sz118 : (Try.prog.info? 118).map (·.size) = some 1 := by kernel_rfl
theorem sz119 : (Try.prog.info? 119).map (·.size) = some 1 := by kernel_rfl
theorem sz120 : (Try.prog.info? 120).map (·.size) = some 1 := by kernel_rfl
theorem sz121 : (Try.prog.info? 121).map (·.size) = some 1 := by kernel_rfl
theorem sz122 : (Try.prog.info? 122).map (·.size) = some 1 := by kernel_rfl
theorem sz123 : (Try.prog.info? 123).map (·.size) = some 1 := by kernel_rfl
theorem sz124 : (Try.prog.info? 124).map (·.size) = some 1 := by kernel_rfl
theorem sz125 : (Try.prog.info? 125).map (·.size) = some 1 := by kernel_rfl
theorem sz126 : (Try.prog.info? 126).map (·.size) = some 1 := by kernel_rfl
theorem sz127 : (Try.prog.info? 127).map (·.size) = some 1 := by kernel_rfl
theorem sz128 : (Try.prog.info? 128).map (·.size) = some 1 := by kernel_rfl
theorem sz129 : (Try.prog.info? 129).map (·.size) = some 1 := by kernel_rfl
theorem sz130 : (Try.prog.info? 130).map (·.size) = some 9 := by kernel_rfl
theorem sz131 : (Try.prog.info? 131).map (·.size) = some 9 := by kernel_rfl
theorem sz132 : (Try.prog.info? 132).map (·.size) = some 1 := by kernel_rfl
theorem sz133 : (Try.prog.info? 133).map (·.size) = some 1 := by kernel_rfl
theorem sz134 : (Try.prog.info? 134).map (·.size) = some 1 := by kernel_rfl
theorem sz135 : (Try.prog.info? 135).map (·.size) = some 1 := by kernel_rfl
theorem sz136 : (Try.prog.info? 136).map (·.size) = some 1 := by kernel_rfl
theorem sz137 : (Try.prog.info? 137).map (·.size) = some 1 := by kernel_rfl
theorem sz138 : (Try.prog.info? 138).map (·.size) = some 1 := by kernel_rfl
theorem sz139 : (Try.prog.info? 139).map (·.size) = some 1 := by kernel_rfl
theorem sz140 : (Try.prog.info? 140).map (·.size) = some 1 := by kernel_rfl
theorem sz141 : (Try.prog.info? 141).map (·.size) = some 1 := by kernel_rfl
theorem sz142 : (Try.prog.info? 142).map (·.size) = some 1 := by kernel_rfl
theorem sz143 : (Try.prog.info? 143).map (·.size) = some 1 := by kernel_rfl
theorem sz144 : (Try.prog.info? 144).map (·.size) = some 5 := by kernel_rfl
theorem sz145 : (Try.prog.info? 145).map (·.size) = some 5 := by kernel_rfl
theorem sz146 : (Try.prog.info? 146).map (·.size) = some 1 := by kernel_rfl
theorem sz147 : (Try.prog.info? 147).map (·.size) = some 7 := by kernel_rfl
theorem sz148 : (Try.prog.info? 148).map (·.size) = some 7 := by kernel_rfl
theorem sz149 : (Try.prog.info? 149).map (·.size) = some 1 := by kernel_rfl
theorem sz150 : (Try.prog.info? 150).map (·.size) = some 1 := by kernel_rfl
theorem sz151 : (Try.prog.info? 151).map (·.size) = some 3 := by kernel_rfl
theorem sz152 : (Try.prog.info? 152).map (·.size) = some 3 := by kernel_rfl
theorem sz153 : (Try.prog.info? 153).map (·.size) = some 1 := by kernel_rfl
theorem sz154 : (Try.prog.info? 154).map (·.size) = some 1 := by kernel_rfl
theorem sz155 : (Try.prog.info? 155).map (·.size) = some 1 := by kernel_rfl
theorem sz156 : (Try.prog.info? 156).map (·.size) = some 1 := by kernel_rfl
theorem sz157 : (Try.prog.info? 157).map (·.size) = some 64 := by kernel_rfl
theorem sz158 : (Try.prog.info? 158).map (·.size) = some 1 := by kernel_rfl
theorem sz159 : (Try.prog.info? 159).map (·.size) = some 1 := by kernel_rfl
theorem sz160 : (Try.prog.info? 160).map (·.size) = some 1 := by kernel_rfl
theorem sz161 : (Try.prog.info? 161).map (·.size) = some 1 := by kernel_rfl
theorem sz162 : (Try.prog.info? 162).map (·.size) = some 1 := by kernel_rfl
theorem sz163 : (Try.prog.info? 163).map (·.size) = some 1 := by kernel_rfl
theorem sz164 : (Try.prog.info? 164).map (·.size) = some 1 := by kernel_rfl
theorem sz165 : (Try.prog.info? 165).map (·.size) = some 1 := by kernel_rfl
theorem sz166 : (Try.prog.info? 166).map (·.size) = some 1 := by kernel_rfl
theorem sz167 : (Try.prog.info? 167).map (·.size) = some 1 := by kernel_rfl
theorem sz168 : (Try.prog.info? 168).map (·.size) = some 1 := by kernel_rfl
theorem sz169 : (Try.prog.info? 169).map (·.size) = some 1 := by kernel_rfl
theorem sz170 : (Try.prog.info? 170).map (·.size) = some 1 := by kernel_rfl
theorem sz171 : (Try.prog.info? 171).map (·.size) = some 1 := by kernel_rfl
theorem sz172 : (Try.prog.info? 172).map (·.size) = some 1 := by kernel_rfl
theorem sz173 : (Try.prog.info? 173).map (·.size) = some 1 := by kernel_rfl
theorem sz174 : (Try.prog.info? 174).map (·.size) = some 1 := by kernel_rfl
theorem sz175 : (Try.prog.info? 175).map (·.size) = some 1 := by kernel_rfl
theorem sz176 : (Try.prog.info? 176).map (·.size) = some 1 := by kernel_rfl
theorem sz177 : (Try.prog.info? 177).map (·.size) = some 1 := by kernel_rfl
theorem sz178 : (Try.prog.info? 178).map (·.size) = some 1 := by kernel_rfl
theorem sz179 : (Try.prog.info? 179).map (·.size) = some 1 := by kernel_rfl
theorem sz180 : (Try.prog.info? 180).map (·.size) = some 1 := by kernel_rfl
theorem sz181 : (Try.prog.info? 181).map (·.size) = some 1 := by kernel_rfl
theorem sz182 : (Try.prog.info? 182).map (·.size) = some 1 := by kernel_rfl
theorem sz183 : (Try.prog.info? 183).map (·.size) = some 1 := by kernel_rfl
theorem sz184 : (Try.prog.info? 184).map (·.size) = some 1 := by kernel_rfl
theorem sz185 : (Try.prog.info? 185).map (·.size) = some 1 := by kernel_rfl
theorem sz191 : (Try.prog.info? 191).map (·.size) = some 1 := by kernel_rfl
theorem sz194 : (Try.prog.info? 194).map (·.size) = some 1 := by kernel_rfl
theorem sz195 : (Try.prog.info? 195).map (·.size) = some 1 := by kernel_rfl
end Go.Proofs.Ytdnofkngljjbmaa
