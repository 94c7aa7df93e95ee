/- Texts of a proof, laid together: Pure, DP. -/
namespace Go.Proofs.Ytdnofkngljjbmaa
set_option linter.unusedSimpArgs false
set_option linter.unusedVariables false

def inB (n lo hi : Int) : Bool := decide (lo ≤ n) && decide (n ≤ hi)
theorem inB_iff {n lo hi : Int} : inB n lo hi = true ↔ lo ≤ n ∧ n ≤ hi := by simp [inB]
theorem inB_not {n lo hi : Int} : inB n lo hi = false ↔ n < lo ∨ hi < n := by
  rw [← Bool.not_eq_true, inB_iff]; omega

end Go.Proofs.Ytdnofkngljjbmaa
namespace Go.Proofs.Ytdnofkngljjbmaa
set_option linter.unusedSimpArgs false
set_option linter.unusedVariables false

def sumN : Nat → (Nat → Int) → Int
  | 0, _ => 0
  | n + 1, f => sumN n f + f n
def cntN : Nat → (Nat → Bool) → Nat
  | 0, _ => 0
  | n + 1, p => cntN n p + if p n = true then 1 else 0
theorem sumN_congr {f g : Nat → Int} : ∀ n, (∀ i, i < n → f i = g i) → sumN n f = sumN n g
  | 0, _ => rfl
  | n + 1, h => by rw [sumN, sumN, sumN_congr n (fun i hi => h i (by omega)), h n (by omega)]
theorem sumN_add (f g : Nat → Int) : ∀ n, sumN n (fun i => f i + g i) = sumN n f + sumN n g
  | 0 => rfl
  | n + 1 => by rw [sumN, sumN, sumN, sumN_add f g n]; omega
theorem sumN_zero {f : Nat → Int} : ∀ n, (∀ i, i < n → f i = 0) → sumN n f = 0
  | 0, _ => rfl
  | n + 1, h => by rw [sumN, sumN_zero n (fun i hi => h i (by omega)), h n (by omega)]; rfl
theorem sumN_nonneg {f : Nat → Int} : ∀ n, (∀ i, i < n → 0 ≤ f i) → 0 ≤ sumN n f
  | 0, _ => Int.le_refl _
  | n + 1, h => by have := sumN_nonneg n (fun i hi => h i (by omega)); have := h n (by omega); rw [sumN]; omega
theorem sumN_le {f : Nat → Int} {B : Int} : ∀ n, (∀ i, i < n → f i ≤ B) → sumN n f ≤ n * B
  | 0, _ => by simp [sumN]
  | n + 1, h => by
    have h1 := sumN_le n (fun i hi => h i (by omega))
    have h2 := h n (by omega)
    rw [sumN, Int.natCast_add, Int.add_mul]
    omega
theorem cntN_congr {p q : Nat → Bool} : ∀ n, (∀ i, i < n → p i = q i) → cntN n p = cntN n q
  | 0, _ => rfl
  | n + 1, h => by rw [cntN, cntN, cntN_congr n (fun i hi => h i (by omega)), h n (by omega)]
theorem cntN_zero {p : Nat → Bool} : ∀ n, (∀ i, i < n → p i = false) → cntN n p = 0
  | 0, _ => rfl
  | n + 1, h => by rw [cntN, cntN_zero n (fun i hi => h i (by omega)), h n (by omega)]; rfl
theorem cntN_le (p : Nat → Bool) : ∀ n, cntN n p ≤ n
  | 0 => Nat.le_refl _
  | n + 1 => by have := cntN_le p n; rw [cntN]; split <;> omega
/-- The set of the plots for which something holds. -/
def msk : Nat → (Nat → Bool) → Nat
  | 0, _ => 0
  | n + 1, p => msk n p ||| if p n = true then 2 ^ n else 0
theorem msk_lt (p : Nat → Bool) : ∀ n, msk n p < 2 ^ n
  | 0 => by simp [msk]
  | n + 1 => by
    have h := msk_lt p n
    have h2 : msk n p < 2 ^ (n + 1) := by rw [Nat.pow_succ]; omega
    refine Nat.or_lt_two_pow h2 ?_
    split
    · rw [Nat.pow_succ]; have := Nat.two_pow_pos n; omega
    · exact Nat.two_pow_pos _
theorem msk_bit (p : Nat → Bool) : ∀ n i, i < n → (msk n p).testBit i = p i
  | n + 1, i, h => by
    rw [msk, Nat.testBit_or]
    rcases Nat.lt_or_ge i n with h1 | h1
    · rw [msk_bit p n i h1]
      have : (if p n = true then 2 ^ n else 0).testBit i = false := by
        split
        · rw [Nat.testBit_two_pow]; simp; omega
        · simp
      rw [this, Bool.or_false]
    · have hi : i = n := by omega
      subst hi
      rw [Nat.testBit_lt_two_pow (msk_lt p i), Bool.false_or]
      cases p i <;> simp
theorem bits_eq {n a b : Nat} (ha : a < 2 ^ n) (hb : b < 2 ^ n) (h : ∀ i, i < n → a.testBit i = b.testBit i) : a = b :=
  Nat.eq_of_testBit_eq fun i => by
    rcases Nat.lt_or_ge i n with h1 | h1
    · exact h i h1
    · have : 2 ^ n ≤ 2 ^ i := Nat.pow_le_pow_right (by omega) h1
      rw [Nat.testBit_lt_two_pow (by omega), Nat.testBit_lt_two_pow (by omega)]
def popM (m s : Nat) : Nat := cntN m s.testBit
/-- What the plots of a set are worth on a day. -/
def wsOf (m : Nat) (wt : Nat → Nat → Int) (d s : Nat) : Int := sumN m fun i => if s.testBit i = true then wt i d else 0
/-- A plan: for each plot a day, or -1. -/
structure Asg (m lo D : Nat) (cap : Nat → Int) (c : Nat → Int) : Prop where
  day : ∀ i, i < m → c i = -1 ∨ ((lo : Int) ≤ c i ∧ c i < D)
  cap : ∀ d, lo ≤ d → d < D → ((cntN m fun i => decide (c i = d) : Nat) : Int) ≤ cap d
def pval (m : Nat) (wt : Nat → Nat → Int) (c : Nat → Int) : Int := sumN m fun i => if 0 ≤ c i then wt i (c i).toNat else 0
theorem pval_nonneg {m : Nat} {wt : Nat → Nat → Int} (hw : ∀ i d, 0 ≤ wt i d) (c : Nat → Int) : 0 ≤ pval m wt c :=
  sumN_nonneg m fun i _ => by split; exact hw _ _; exact Int.le_refl _
/-- The greatest worth of all plans. -/
structure Best (m D : Nat) (cap : Nat → Int) (wt : Nat → Nat → Int) (base v : Int) : Prop where
  is : ∃ c, Asg m 0 D cap c ∧ base + pval m wt c = v
  most : ∀ c, Asg m 0 D cap c → base + pval m wt c ≤ v
theorem Best.uniq {m D : Nat} {cap : Nat → Int} {wt : Nat → Nat → Int} {base v w : Int} (h : Best m D cap wt base v) (k : Best m D cap wt base w) : v = w := by
  obtain ⟨c, hc, rfl⟩ := h.is
  obtain ⟨c', hc', rfl⟩ := k.is
  have := h.most c' hc'
  have := k.most c hc
  omega
def noPlan (_ : Nat) : Int := -1
theorem noPlan_asg (m lo D : Nat) {cap : Nat → Int} (h : ∀ d, lo ≤ d → d < D → 0 ≤ cap d) : Asg m lo D cap noPlan :=
  ⟨fun _ _ => .inl rfl, fun d h1 h2 => by rw [cntN_zero m fun i _ => by rw [decide_eq_false]; unfold noPlan; omega]; exact h d h1 h2⟩
theorem pval_noPlan (m : Nat) (wt : Nat → Nat → Int) : pval m wt noPlan = 0 := sumN_zero m fun i _ => by rw [if_neg]; unfold noPlan; omega
/-! ### Forward, over the sets that are harvested so far -/
section
variable {m : Nat} {cap : Nat → Int} {wt : Nat → Nat → Int} {base : Int}
structure FOk (m : Nat) (cap : Nat → Int) (wt : Nat → Nat → Int) (base : Int) (d : Nat) (F : Nat → Int) : Prop where
  is : ∀ s, s < 2 ^ m → 0 ≤ F s → ∃ c, Asg m 0 d cap c ∧ (∀ i, i < m → s.testBit i = decide (0 ≤ c i)) ∧ base + pval m wt c = F s
  most : ∀ s c, s < 2 ^ m → Asg m 0 d cap c → (∀ i, i < m → s.testBit i = decide (0 ≤ c i)) → base + pval m wt c ≤ F s
theorem FOk.start {F : Nat → Int} (h0 : F 0 = base) (hF : ∀ s, s ≠ 0 → s < 2 ^ m → F s < 0) : FOk m cap wt base 0 F := by
  refine ⟨fun s hs h => ?_, fun s c hs hc hb => ?_⟩
  · have : s = 0 := Decidable.byContradiction fun hn => by have := hF s hn hs; omega
    subst this
    exact ⟨noPlan, noPlan_asg m 0 0 (fun d _ h => by omega), fun i _ => by rw [Nat.zero_testBit, decide_eq_false]; unfold noPlan; omega, by rw [pval_noPlan, h0]; omega⟩
  · have hm : ∀ i, i < m → c i = -1 := fun i hi => by rcases hc.day i hi with h | h; exact h; omega
    have : s = 0 := bits_eq hs (Nat.two_pow_pos m) fun i hi => by rw [hb i hi, hm i hi, Nat.zero_testBit]; rfl
    subst this
    rw [h0, show pval m wt c = 0 from sumN_zero m fun i hi => by rw [hm i hi]; rfl]
    omega
theorem and_zero_bit {s t : Nat} (h : s &&& t = 0) (i : Nat) : ¬ (s.testBit i = true ∧ t.testBit i = true) := fun hh => by
  have := congrArg (fun x => x.testBit i) h
  simp only [Nat.testBit_and, Nat.zero_testBit, hh.1, hh.2] at this
  cases this
theorem FOk.step (hb : 0 ≤ base) (hw : ∀ i d, 0 ≤ wt i d) {d : Nat} {F G : Nat → Int} (h : FOk m cap wt base d F) (hc : 0 ≤ cap d)
    (hup : ∀ s t, s < 2 ^ m → t < 2 ^ m → s &&& t = 0 → (popM m t : Int) ≤ cap d → 0 ≤ F s → F s + wsOf m wt d t ≤ G (s ||| t))
    (hfrom : ∀ s, s < 2 ^ m → 0 ≤ G s → G s = F s ∨ ∃ a t, a < 2 ^ m ∧ t < 2 ^ m ∧ a &&& t = 0 ∧ (popM m t : Int) ≤ cap d ∧ 0 ≤ F a ∧ a ||| t = s ∧ G s = F a + wsOf m wt d t) :
    FOk m cap wt base (d + 1) G := by
  refine ⟨fun s hs hG => ?_, fun s c hs hc' hbit => ?_⟩
  · rcases hfrom s hs hG with he | ⟨a, t, ha, ht, hat, hp, hFa, rfl, he⟩
    · obtain ⟨c, c1, c2, c3⟩ := h.is s hs (by omega)
      refine ⟨c, ⟨fun i hi => ?_, fun e h1 h2 => ?_⟩, c2, by rw [c3, he]⟩
      · rcases c1.day i hi with h | h
        · exact .inl h
        · exact .inr (by omega)
      · rcases Nat.lt_or_ge e d with h3 | h3
        · exact c1.cap e h1 h3
        · have : e = d := by omega
          subst this
          rw [cntN_zero m fun i hi => by rw [decide_eq_false]; rcases c1.day i hi with h | h <;> omega]
          exact hc
    · obtain ⟨c, c1, c2, c3⟩ := h.is a ha hFa
      have hneg : ∀ i, i < m → t.testBit i = true → c i = -1 := fun i hi htb => by
        rcases c1.day i hi with h | h
        · exact h
        · have := c2 i hi
          rw [decide_eq_true (by omega : 0 ≤ c i)] at this
          exact absurd ⟨this, htb⟩ (and_zero_bit hat i)
      refine ⟨fun i => if t.testBit i = true then (d : Int) else c i, ⟨fun i hi => ?_, fun e h1 h2 => ?_⟩, fun i hi => ?_, ?_⟩
      · try dsimp only
        split
        · exact .inr (by omega)
        · rcases c1.day i hi with h | h
          · exact .inl h
          · exact .inr (by omega)
      · try dsimp only
        rcases Nat.lt_or_ge e d with h3 | h3
        · rw [cntN_congr (q := fun i => decide (c i = e)) m fun i hi => by
            split
            · rename_i htb
              rw [hneg i hi htb, decide_eq_false (by omega), decide_eq_false (by omega)]
            · rfl]
          exact c1.cap e h1 h3
        · have : e = d := by omega
          subst this
          rw [cntN_congr (q := t.testBit) m fun i hi => by
            split
            · rename_i htb
              rw [htb, decide_eq_true rfl]
            · rename_i htb
              rw [Bool.not_eq_true] at htb
              rw [htb, decide_eq_false]
              rcases c1.day i hi with h | h <;> omega]
          exact hp
      · try dsimp only
        rw [Nat.testBit_or, c2 i hi]
        split
        · rename_i htb
          rw [htb, Bool.or_true, decide_eq_true (by omega)]
        · rename_i htb
          rw [Bool.not_eq_true] at htb
          rw [htb, Bool.or_false]
      · rw [he, ← c3, Int.add_assoc]
        congr 1
        rw [pval, pval, wsOf, ← sumN_add]
        refine sumN_congr m fun i hi => ?_
        try dsimp only
        split
        · rename_i htb
          rw [hneg i hi htb, if_pos (by omega), if_neg (by omega)]
          simp
        · rw [Int.add_zero]
  · let t := msk m fun i => decide (c i = d)
    let a := msk m fun i => decide (0 ≤ c i) && !decide (c i = d)
    let c' : Nat → Int := fun i => if c i = d then -1 else c i
    have ht := msk_lt (fun i => decide (c i = d)) m
    have ha := msk_lt (fun i => decide (0 ≤ c i) && !decide (c i = d)) m
    have bt : ∀ i, i < m → t.testBit i = decide (c i = d) := fun i hi => msk_bit _ m i hi
    have ba : ∀ i, i < m → a.testBit i = (decide (0 ≤ c i) && !decide (c i = d)) := fun i hi => msk_bit _ m i hi
    have hat : a &&& t = 0 := bits_eq (Nat.and_lt_two_pow _ ht) (Nat.two_pow_pos m) fun i hi => by
      rw [Nat.testBit_and, ba i hi, bt i hi, Nat.zero_testBit]
      cases decide (c i = d) <;> simp
    have hor : a ||| t = s := bits_eq (Nat.or_lt_two_pow ha ht) hs fun i hi => by
      rw [Nat.testBit_or, ba i hi, bt i hi, hbit i hi, Bool.eq_iff_iff]
      simp only [Bool.or_eq_true, Bool.and_eq_true, decide_eq_true_eq, Bool.not_eq_true', decide_eq_false_iff_not]
      omega
    have hc1 : Asg m 0 d cap c' := by
      refine ⟨fun i hi => ?_, fun e h1 h2 => ?_⟩
      · show (if c i = d then (-1 : Int) else c i) = -1 ∨ _
        split
        · exact .inl rfl
        · rename_i hne
          rcases hc'.day i hi with h | h
          · exact .inl h
          · refine .inr ?_
            show ((0 : Nat) : Int) ≤ (if c i = d then (-1 : Int) else c i) ∧ (if c i = d then (-1 : Int) else c i) < d
            rw [if_neg hne]
            omega
      · rw [cntN_congr (q := fun i => decide (c i = e)) m fun i hi => by
          show decide ((if c i = d then (-1 : Int) else c i) = e) = _
          split
          · rename_i hh
            rw [hh, decide_eq_false (by omega), decide_eq_false (by omega)]
          · rfl]
        exact hc'.cap e h1 (by omega)
    have hF := h.most a c' ha hc1 fun i hi => by
      rw [ba i hi]
      show _ = decide (0 ≤ (if c i = d then (-1 : Int) else c i))
      split
      · rename_i hh
        rw [hh, decide_eq_true rfl]
        simp
      · rename_i hh
        rw [decide_eq_false hh]
        simp
    have hp : (popM m t : Int) ≤ cap d := by
      unfold popM
      rw [cntN_congr (q := fun i => decide (c i = d)) m bt]
      exact hc'.cap d (by omega) (by omega)
    have hv0 := pval_nonneg (m := m) hw c'
    have hu := hup a t ha ht hat hp (by omega)
    rw [hor] at hu
    have hval : pval m wt c = pval m wt c' + wsOf m wt d t := by
      rw [pval, pval, wsOf, ← sumN_add]
      refine sumN_congr m fun i hi => ?_
      try dsimp only
      rw [bt i hi]
      show _ = (if 0 ≤ (if c i = d then (-1 : Int) else c i) then wt i (if c i = d then (-1 : Int) else c i).toNat else 0) + _
      by_cases hh : c i = d
      · rw [if_pos hh, hh, if_pos (by omega), if_neg (by omega), decide_eq_true rfl, if_pos rfl]
        simp
      · rw [if_neg hh, decide_eq_false hh]
        simp
    rw [hval]
    omega
theorem FOk.done (hb : 0 ≤ base) {D : Nat} {F : Nat → Int} (h : FOk m cap wt base D F) (hc : ∀ d, d < D → 0 ≤ cap d) {v : Int} (hv : ∃ s, s < 2 ^ m ∧ F s = v) (hm : ∀ s, s < 2 ^ m → F s ≤ v) : Best m D cap wt base v := by
  have h0 := h.most 0 noPlan (Nat.two_pow_pos m) (noPlan_asg m 0 D fun d _ h => hc d h) fun i _ => by rw [Nat.zero_testBit, decide_eq_false]; unfold noPlan; omega
  rw [pval_noPlan] at h0
  have h1 := hm 0 (Nat.two_pow_pos m)
  obtain ⟨s, hs, rfl⟩ := hv
  obtain ⟨c, c1, _, c3⟩ := h.is s hs (by omega)
  refine ⟨⟨c, c1, c3⟩, fun c hc' => ?_⟩
  have := h.most (msk m fun i => decide (0 ≤ c i)) c (msk_lt _ m) hc' fun i hi => msk_bit _ m i hi
  have := hm (msk m fun i => decide (0 ≤ c i)) (msk_lt _ m)
  omega
/-! ### Backward, over the sets that may still be harvested -/
structure BOk (m : Nat) (cap : Nat → Int) (wt : Nat → Nat → Int) (D d : Nat) (B : Nat → Int) : Prop where
  is : ∀ s, s < 2 ^ m → ∃ c, Asg m d D cap c ∧ (∀ i, i < m → 0 ≤ c i → s.testBit i = true) ∧ pval m wt c = B s
  most : ∀ s c, s < 2 ^ m → Asg m d D cap c → (∀ i, i < m → 0 ≤ c i → s.testBit i = true) → pval m wt c ≤ B s
theorem BOk.start {D : Nat} {B : Nat → Int} (h : ∀ s, s < 2 ^ m → B s = 0) : BOk m cap wt D D B := by
  refine ⟨fun s hs => ⟨noPlan, noPlan_asg m D D fun d h1 h2 => by omega, fun i _ hi => ?_, by rw [pval_noPlan, h s hs]⟩, fun s c hs hc _ => ?_⟩
  · unfold noPlan at hi; omega
  · rw [h s hs, show pval m wt c = 0 from sumN_zero m fun i hi => by rw [if_neg]; rcases hc.day i hi with h | h <;> omega]
    exact Int.le_refl _
theorem BOk.step (hw : ∀ i d, 0 ≤ wt i d) {D d : Nat} (hd : d < D) {B G : Nat → Int} (h : BOk m cap wt D (d + 1) B) (hc : 0 ≤ cap d)
    (hge : ∀ s, s < 2 ^ m → B s ≤ G s)
    (hup : ∀ s t r, s < 2 ^ m → t < 2 ^ m → t ≠ 0 → r &&& t = 0 → r ||| t = s → (popM m t : Int) ≤ cap d → wsOf m wt d t ≠ 0 → wsOf m wt d t + B r ≤ G s)
    (hfrom : ∀ s, s < 2 ^ m → G s = B s ∨ ∃ t r, t < 2 ^ m ∧ r &&& t = 0 ∧ r ||| t = s ∧ (popM m t : Int) ≤ cap d ∧ G s = wsOf m wt d t + B r) :
    BOk m cap wt D d G := by
  refine ⟨fun s hs => ?_, fun s c hs hc' hbit => ?_⟩
  · rcases hfrom s hs with he | ⟨t, r, ht, hrt, rfl, hp, he⟩
    · obtain ⟨c, c1, c2, c3⟩ := h.is s hs
      refine ⟨c, ⟨fun i hi => ?_, fun e h1 h2 => ?_⟩, c2, by rw [c3, he]⟩
      · rcases c1.day i hi with h | h
        · exact .inl h
        · exact .inr (by omega)
      · rcases Nat.lt_or_ge d e with h3 | h3
        · exact c1.cap e h3 h2
        · have : e = d := by omega
          subst this
          rw [cntN_zero m fun i hi => by rw [decide_eq_false]; rcases c1.day i hi with h | h <;> omega]
          exact hc
    · have hr : r < 2 ^ m := Nat.lt_of_le_of_lt Nat.left_le_or hs
      obtain ⟨c, c1, c2, c3⟩ := h.is r hr
      have hneg : ∀ i, i < m → t.testBit i = true → c i = -1 := fun i hi htb => by
        rcases c1.day i hi with h | h
        · exact h
        · exact absurd ⟨c2 i hi (by omega), htb⟩ (and_zero_bit hrt i)
      refine ⟨fun i => if t.testBit i = true then (d : Int) else c i, ⟨fun i hi => ?_, fun e h1 h2 => ?_⟩, fun i hi => ?_, ?_⟩
      · try dsimp only
        split
        · exact .inr (by omega)
        · rcases c1.day i hi with h | h
          · exact .inl h
          · exact .inr (by omega)
      · try dsimp only
        rcases Nat.lt_or_ge d e with h3 | h3
        · rw [cntN_congr (q := fun i => decide (c i = e)) m fun i hi => by
            split
            · rename_i htb
              rw [hneg i hi htb, decide_eq_false (by omega), decide_eq_false (by omega)]
            · rfl]
          exact c1.cap e h3 h2
        · have : e = d := by omega
          subst this
          rw [cntN_congr (q := t.testBit) m fun i hi => by
            split
            · rename_i htb
              rw [htb, decide_eq_true rfl]
            · rename_i htb
              rw [Bool.not_eq_true] at htb
              rw [htb, decide_eq_false]
              rcases c1.day i hi with h | h <;> omega]
          exact hp
      · try dsimp only
        rw [Nat.testBit_or]
        split
        · rename_i htb
          rw [htb, Bool.or_true]
          exact fun _ => rfl
        · intro h0
          rw [c2 i hi h0, Bool.true_or]
      · rw [he, ← c3, Int.add_comm]
        rw [pval, pval, wsOf, ← sumN_add]
        refine sumN_congr m fun i hi => ?_
        try dsimp only
        split
        · rename_i htb
          rw [hneg i hi htb, if_pos (by omega), if_neg (by omega)]
          simp
        · rw [Int.add_zero]
  · let t := msk m fun i => decide (c i = d)
    let r := msk m fun i => s.testBit i && !decide (c i = d)
    let c' : Nat → Int := fun i => if c i = d then -1 else c i
    have ht := msk_lt (fun i => decide (c i = d)) m
    have hr := msk_lt (fun i => s.testBit i && !decide (c i = d)) m
    have bt : ∀ i, i < m → t.testBit i = decide (c i = d) := fun i hi => msk_bit _ m i hi
    have br : ∀ i, i < m → r.testBit i = (s.testBit i && !decide (c i = d)) := fun i hi => msk_bit _ m i hi
    have hrt : r &&& t = 0 := bits_eq (Nat.and_lt_two_pow _ ht) (Nat.two_pow_pos m) fun i hi => by
      rw [Nat.testBit_and, br i hi, bt i hi, Nat.zero_testBit]
      cases decide (c i = d) <;> simp
    have hor : r ||| t = s := bits_eq (Nat.or_lt_two_pow hr ht) hs fun i hi => by
      rw [Nat.testBit_or, br i hi, bt i hi]
      by_cases hh : c i = d
      · rw [decide_eq_true hh, hbit i hi (by omega)]
        rfl
      · rw [decide_eq_false hh]
        simp
    have hc1 : Asg m (d + 1) D cap c' := by
      refine ⟨fun i hi => ?_, fun e h1 h2 => ?_⟩
      · show (if c i = d then (-1 : Int) else c i) = -1 ∨ _
        split
        · exact .inl rfl
        · rename_i hne
          rcases hc'.day i hi with h | h
          · exact .inl h
          · refine .inr ?_
            show ((d + 1 : Nat) : Int) ≤ (if c i = d then (-1 : Int) else c i) ∧ (if c i = d then (-1 : Int) else c i) < D
            rw [if_neg hne]
            omega
      · rw [cntN_congr (q := fun i => decide (c i = e)) m fun i hi => by
          show decide ((if c i = d then (-1 : Int) else c i) = e) = _
          split
          · rename_i hh
            rw [hh, decide_eq_false (by omega), decide_eq_false (by omega)]
          · rfl]
        exact hc'.cap e (by omega) h2
    have hp : (popM m t : Int) ≤ cap d := by
      unfold popM
      rw [cntN_congr (q := fun i => decide (c i = d)) m bt]
      exact hc'.cap d (Nat.le_refl _) hd
    have hval : pval m wt c = pval m wt c' + wsOf m wt d t := by
      rw [pval, pval, wsOf, ← sumN_add]
      refine sumN_congr m fun i hi => ?_
      try dsimp only
      rw [bt i hi]
      show _ = (if 0 ≤ (if c i = d then (-1 : Int) else c i) then wt i (if c i = d then (-1 : Int) else c i).toNat else 0) + _
      by_cases hh : c i = d
      · rw [if_pos hh, hh, if_pos (by omega), if_neg (by omega), decide_eq_true rfl, if_pos rfl]
        simp
      · rw [if_neg hh, decide_eq_false hh]
        simp
    have hsub : ∀ i, i < m → 0 ≤ c' i → r.testBit i = true := fun i hi h0 => by
      have h1 : ¬ c i = d := fun hh => by
        have : c' i = -1 := if_pos hh
        omega
      have h2 : c' i = c i := if_neg h1
      rw [br i hi, hbit i hi (by omega), decide_eq_false h1]
      rfl
    by_cases hz : t = 0 ∨ wsOf m wt d t = 0
    · have hws : wsOf m wt d t = 0 := by
        rcases hz with hz | hz
        · rw [hz]
          exact sumN_zero m fun i _ => by simp
        · exact hz
      have h1 := h.most s c' hs hc1 fun i hi h0 => by
        have := hsub i hi h0
        rw [br i hi, Bool.and_eq_true] at this
        exact this.1
      have h2 := hge s hs
      omega
    · have h1 := h.most r c' hr hc1 hsub
      have h2 := hup s t r hs ht (fun h => hz (.inl h)) hrt hor hp (fun h => hz (.inr h))
      omega
theorem BOk.done {D : Nat} {B : Nat → Int} (h : BOk m cap wt D 0 B) {s : Nat} (hs : s = 2 ^ m - 1) : Best m D cap wt base (B s + base) := by
  have h0 := Nat.two_pow_pos m
  obtain ⟨c, c1, _, c3⟩ := h.is s (by omega)
  refine ⟨⟨c, c1, by omega⟩, fun c' hc' => ?_⟩
  have := h.most s c' (by omega) hc' fun i hi _ => by rw [hs, Nat.testBit_two_pow_sub_one, decide_eq_true hi]
  omega
end
end Go.Proofs.Ytdnofkngljjbmaa
