/- Texts of a proof, laid together: CheapP, DuP. -/
import Derived.Test.YtjkclggdaafmaaaZD13
import Derived.Carry
namespace Go.Proofs.Ytjkclggdaafmaaa
set_option linter.unusedSimpArgs false
set_option linter.unusedVariables false
open Go.RowKit

def chCode (F : Fld) (p : Prices) (c : Cs) (b : Int) : Int :=
  if prCode F p [] c ≠ 0 then prCode F p [] c else if inB b 0 20000 = false then 2 else if wood F c = true then 4 else if (seekAll F p c b.toNat).1 = true then 0 else 7
def chRes (F : Fld) (p : Prices) (c : Cs) (b : Int) : List Net := if chCode F p c b = 0 then (seekAll F p c b.toNat).2.best else []
def chLeast (F : Fld) (p : Prices) (c : Cs) (b : Int) : Int := if chCode F p c b = 0 then (seekAll F p c b.toNat).2.least else 0
section
variable {F : Fld} {p : Prices} {c : Cs} {b : Int} {B : Nat}
theorem ch_bad (h : prCode F p [] c ≠ 0) : chCode F p c b = prCode F p [] c ∧ chRes F p c b = [] ∧ chLeast F p c b = 0 := by
  have h1 : chCode F p c b = prCode F p [] c := by rw [chCode, if_pos h]
  exact ⟨h1, by rw [chRes, h1, if_neg h], by rw [chLeast, h1, if_neg h]⟩
theorem ch_range (h : prCode F p [] c = 0) (hb : inB b 0 20000 = false) : chCode F p c b = 2 ∧ chRes F p c b = [] ∧ chLeast F p c b = 0 := by
  have h1 : chCode F p c b = 2 := by rw [chCode, if_neg (by rw [h]; decide), if_pos hb]
  exact ⟨h1, by rw [chRes, h1, if_neg (by decide)], by rw [chLeast, h1, if_neg (by decide)]⟩
theorem ch_wood (h : prCode F p [] c = 0) (hb : inB b 0 20000 = true) (hw : wood F c = true) : chCode F p c b = 4 ∧ chRes F p c b = [] ∧ chLeast F p c b = 0 := by
  have h1 : chCode F p c b = 4 := by rw [chCode, if_neg (by rw [h]; decide), if_neg (by rw [hb]; decide), if_pos hw]
  exact ⟨h1, by rw [chRes, h1, if_neg (by decide)], by rw [chLeast, h1, if_neg (by decide)]⟩
theorem ch_end (h : prCode F p [] c = 0) (hb : inB (B : Int) 0 20000 = true) (hw : wood F c = false) : 
    ((seekAll F p c B).1 = true → chCode F p c B = 0 ∧ chRes F p c B = (seekAll F p c B).2.best ∧ chLeast F p c B = (seekAll F p c B).2.least) ∧
    ((seekAll F p c B).1 = false → chCode F p c B = 7 ∧ chRes F p c B = [] ∧ chLeast F p c B = 0) := by
  have e : (B : Int).toNat = B := by omega
  constructor <;> intro hq
  · have h1 : chCode F p c B = 0 := by rw [chCode, if_neg (by rw [h]; decide), if_neg (by rw [hb]; decide), if_neg (by rw [hw]; decide), e, if_pos hq]
    exact ⟨h1, by rw [chRes, h1, if_pos rfl, e], by rw [chLeast, h1, if_pos rfl, e]⟩
  · have h1 : chCode F p c B = 7 := by rw [chCode, if_neg (by rw [h]; decide), if_neg (by rw [hb]; decide), if_neg (by rw [hw]; decide), e, if_neg (by rw [hq]; decide)]
    exact ⟨h1, by rw [chRes, h1, if_neg (by decide)], by rw [chLeast, h1, if_neg (by decide)]⟩
end
theorem all_nodup (c : Cs) : c.all.Nodup := by
  unfold Cs.all Cs.below
  exact List.nodup_range.filter _
section
variable {P : Program} {ops : Array Oper} {rest : List Oper} {o : Oper} {a : Act} {w0 w : World} {Q : Exit → Act → World → Prop} {L : List Ent}
end
theorem below_oth {B g : Nat} {w a b : World} (h : Below B w a) (ho : Oth g a b) (hg : B ≤ g) (hB : B ≤ w.heap.size) : Below B w b := h.trans (ho.below hg (Nat.le_trans hB h.size))
theorem Mem.single {w0 w : World} {e : TypeId} {sz n : Nat} {v : Value} {cs : List Value} (hB : Below w0.heap.size w0 w) (h : w.ownsRow w0.heap.size e sz v n cs) : Mem w0 w [.row v e sz n cs] := by
  refine ⟨hB, fun i x hx => ?_, fun i j x y hij hx hy => ?_⟩
  · cases i with
    | zero => simp only [List.getElem?_cons_zero, Option.some.injEq] at hx; subst hx; exact h
    | succ i => simp at hx
  · cases i <;> cases j
    · exact absurd rfl hij
    · simp at hy
    · simp at hx
    · simp at hx
theorem Mem.anew {w0 w : World} (hB : Below w0.heap.size w0 w) : Mem w0 w [] := ⟨hB, fun i x hx => by simp at hx, fun i j x y _ hx => by simp at hx⟩
end Go.Proofs.Ytjkclggdaafmaaa
namespace Go.Proofs.Ytjkclggdaafmaaa
set_option linter.unusedSimpArgs false
set_option linter.unusedVariables false
open Go.RowKit

variable {F : Fld} {p : Prices}
theorem dTo_congr (n : Net) (ks : List Nat) {ds es : List Int} : ∀ i, (∀ j, j < i → gi ds j = gi es j) → dTo n ks ds i = dTo n ks es i
  | 0, _ => rfl
  | i + 1, h => by rw [dTo, dTo, dTo_congr n ks i fun j hj => h j (by omega), h i (by omega)]
theorem dTo_mono (n : Net) (ks : List Nat) {ds : List Int} (h : ∀ i, 0 ≤ gi ds i) (i : Nat) : ∀ j, i ≤ j → dTo n ks ds i ≤ dTo n ks ds j
  | 0, hj => by rw [show i = 0 by omega]; exact Int.le_refl _
  | j + 1, hj => by
    rcases Nat.lt_or_ge i (j + 1) with h1 | h1
    · have ih := dTo_mono n ks h i j (by omega)
      have := h j
      rw [dTo]
      split <;> omega
    · rw [show i = j + 1 by omega]; exact Int.le_refl _
theorem duTo_gi (F : Fld) (p : Prices) (ks : List Nat) {t : Nat} : ∀ T, t ≤ T → ∀ i, i < t → gi (duTo F p ks T) i = gi (duTo F p ks t) i
  | 0, h, i, hi => by omega
  | T + 1, h, i, hi => by
    rcases Nat.lt_or_ge t (T + 1) with h1 | h1
    · rw [duTo, gi_snoc_lt _ _ (by rw [duTo_len]; omega)]
      exact duTo_gi F p ks T (by omega) i hi
    · rw [show t = T + 1 by omega]
/-- The sum of the first duties. -/
def duS (f : Nat → Int) : Nat → Int
  | 0 => 0
  | i + 1 => duS f i + f i
theorem gi_out {ds : List Int} {i : Nat} (h : ds.length ≤ i) : gi ds i = 0 := by
  unfold gi
  rw [List.getD_eq_getElem?_getD, List.getElem?_eq_none h]
  rfl
theorem dFold_min (p : Prices) (ks : List Nat) (ds : List Int) {ns : List Net} (h : ∀ n ∈ ns, 0 ≤ ownN p ks ds n) : ∀ i, i ≤ ns.length →
    (i = 0 ∧ dFold p ks ds ns i = -1) ∨ (0 < i ∧ (∃ n ∈ ns, dFold p ks ds ns i = ownN p ks ds n) ∧ ∀ j (hj : j < ns.length), j < i → dFold p ks ds ns i ≤ ownN p ks ds ns[j])
  | 0, _ => .inl ⟨rfl, rfl⟩
  | i + 1, hi => by
    refine .inr ⟨by omega, ?_⟩
    have hm : ns[i] ∈ ns := List.getElem_mem _
    have ho := h _ hm
    rw [dFold_succ p ks ds (by omega), dStep]
    rcases dFold_min p ks ds h i (by omega) with ⟨h0, h1⟩ | ⟨h0, ⟨n, hn, he⟩, hl⟩
    · subst h0
      rw [h1, if_pos (by simp)]
      refine ⟨⟨_, hm, rfl⟩, fun j hj h2 => ?_⟩
      obtain rfl : j = 0 := by omega
      exact Int.le_refl _
    · have hn0 := h n hn
      by_cases hx : ownN p ks ds ns[i] < dFold p ks ds ns i
      · rw [if_pos (by simp [hx])]
        refine ⟨⟨_, hm, rfl⟩, fun j hj h2 => ?_⟩
        rcases Nat.lt_or_ge j i with h3 | h3
        · have := hl j hj h3
          omega
        · obtain rfl : j = i := by omega
          exact Int.le_refl _
      · rw [if_neg (by rw [he] at hx ⊢; simp; omega)]
        refine ⟨⟨n, hn, he⟩, fun j hj h2 => ?_⟩
        rcases Nat.lt_or_ge j i with h3 | h3
        · exact hl j hj h3
        · obtain rfl : j = i := by omega
          omega
/-- Targets that can be covered. -/
structure Aim (F : Fld) (ks : List Nat) : Prop where
  lt : ∀ k ∈ ks, k < 100
  has : ∀ k ∈ ks, F.has k = true
  bare : ∀ k ∈ ks, (F.kind k == 3) = false
theorem ks_mem {ks : List Nat} {t : Nat} (h : t < ks.length) : ks.getD t 0 ∈ ks := by
  rw [List.getD_eq_getElem?_getD, List.getElem?_eq_getElem h]
  exact List.getElem_mem h
theorem netCost_nonneg (hg : p.good = true) {x : Net} (h : x.fits F = true) : 0 ≤ netCost p x := by
  have := costs_nonneg (F := F) hg (xs := [x]) (by simpa using h)
  rwa [costs_1] at this
theorem du_step (hv : F.valid = true) (hg : p.good = true) {ks : List Nat} (A : Aim F ks) : ∀ t, t ≤ ks.length →
    (∀ i, 0 ≤ gi (duTo F p ks t) i) ∧ ∀ n : Net, n.fits F = true → dTo n ks (duTo F p ks t) t ≤ netCost p n
  | 0, _ => ⟨fun i => by rw [gi_out (by simp [duTo])]; exact Int.le_refl _, fun n hn => netCost_nonneg hg hn⟩
  | t + 1, ht => by
    obtain ⟨ih1, ih2⟩ := du_step hv hg A t (by omega)
    have hk := ks_mem (show t < ks.length by omega)
    have hne := netsAt_ne hv (A.lt _ hk) (A.has _ hk) (A.bare _ hk)
    have hl := duTo_len F p ks t
    have ho : ∀ n ∈ netsAt F (ks.getD t 0), 0 ≤ ownN p ks (duTo F p ks t) n := fun n hn => by
      have := ih2 n (netsAt_fits hn)
      unfold ownN
      rw [hl]
      omega
    rcases dFold_min p ks (duTo F p ks t) ho _ (Nat.le_refl _) with ⟨h0, _⟩ | ⟨_, ⟨n, hn, he⟩, hmin⟩
    · exact absurd (List.length_eq_zero_iff.1 h0) hne
    have h0 := ho n hn
    have hlast : gi (duTo F p ks (t + 1)) t = dFold p ks (duTo F p ks t) (netsAt F (ks.getD t 0)) (netsAt F (ks.getD t 0)).length := by
      have := gi_snoc (duTo F p ks t) (dFold p ks (duTo F p ks t) (netsAt F (ks.getD t 0)) (netsAt F (ks.getD t 0)).length)
      rw [hl] at this
      rw [duTo]
      exact this
    refine ⟨fun i => ?_, fun x hx => ?_⟩
    · rcases Nat.lt_trichotomy i t with h1 | h1 | h1
      · rw [duTo_gi F p ks (t := t) (t + 1) (by omega) i h1]
        exact ih1 i
      · rw [h1, hlast]
        omega
      · rw [gi_out (by rw [duTo_len]; omega)]
        exact Int.le_refl _
    · rw [dTo, dTo_congr x ks t fun j hj => duTo_gi F p ks (t := t) (t + 1) (by omega) j hj, hlast]
      have h1 := ih2 x hx
      split
      · next hin =>
        have hx2 := netsAt_full (A.lt _ hk) hx hin
        obtain ⟨j, hj, hje⟩ := List.getElem_of_mem hx2
        have h2 := hmin j hj hj
        rw [hje, ownN, hl] at h2
        omega
      · omega
/-- Each duty is the greatest: a net is paid for by the duties up to it. -/
theorem du_tight (hv : F.valid = true) (hg : p.good = true) {ks : List Nat} (A : Aim F ks) {t : Nat} (ht : t < ks.length) :
    ∃ n ∈ netsAt F (ks.getD t 0), dTo n ks (duTo F p ks ks.length) t + gi (duTo F p ks ks.length) t = netCost p n := by
  obtain ⟨ih1, ih2⟩ := du_step hv hg A t (by omega)
  have hk := ks_mem ht
  have hne := netsAt_ne hv (A.lt _ hk) (A.has _ hk) (A.bare _ hk)
  have hl := duTo_len F p ks t
  have ho : ∀ n ∈ netsAt F (ks.getD t 0), 0 ≤ ownN p ks (duTo F p ks t) n := fun n hn => by
    have := ih2 n (netsAt_fits hn)
    unfold ownN
    rw [hl]
    omega
  rcases dFold_min p ks (duTo F p ks t) ho _ (Nat.le_refl _) with ⟨h0, _⟩ | ⟨_, ⟨n, hn, he⟩, hmin⟩
  · exact absurd (List.length_eq_zero_iff.1 h0) hne
  refine ⟨n, hn, ?_⟩
  have hlast : gi (duTo F p ks (t + 1)) t = dFold p ks (duTo F p ks t) (netsAt F (ks.getD t 0)) (netsAt F (ks.getD t 0)).length := by
    have := gi_snoc (duTo F p ks t) (dFold p ks (duTo F p ks t) (netsAt F (ks.getD t 0)) (netsAt F (ks.getD t 0)).length)
    rw [hl] at this
    rw [duTo]
    exact this
  rw [dTo_congr n ks t fun j hj => duTo_gi F p ks (t := t) ks.length (by omega) j hj, duTo_gi F p ks (t := t + 1) ks.length (by omega) t (by omega), hlast, he, ownN, hl]
  omega
/-- Whether duties are a proof. -/
def pfB (F : Fld) (p : Prices) (ks : List Nat) (ds : List Int) : Bool := ks.all fun k => (netsAt F k).all fun n => decide (dTo n ks ds ds.length ≤ netCost p n)
theorem pf_due (hv : F.valid = true) (hg : p.good = true) {ks : List Nat} (A : Aim F ks) : pfB F p ks (duTo F p ks ks.length) = true := by
  unfold pfB
  rw [List.all_eq_true]
  intro k hk
  rw [List.all_eq_true]
  intro n hn
  rw [duTo_len]
  exact decide_eq_true ((du_step hv hg A ks.length (Nat.le_refl _)).2 n (netsAt_fits hn))
theorem du_set (ds : List Int) {i : Nat} (h : i < ds.length) (x : Int) (j : Nat) : gi (ds.set i x) j = if j = i then x else gi ds j := by
  unfold gi
  rw [List.getD_eq_getElem?_getD, List.getD_eq_getElem?_getD, List.getElem?_set]
  by_cases h1 : i = j
  · subst h1
    rw [if_pos rfl, if_pos h, if_pos rfl]
    rfl
  · rw [if_neg h1, if_neg (by omega)]
theorem pf_wrong (hv : F.valid = true) (hg : p.good = true) {ks : List Nat} (A : Aim F ks) {t : Nat} (ht : t < ks.length) : pfB F p ks ((duTo F p ks ks.length).set t (gi (duTo F p ks ks.length) t + 1)) = false := by
  obtain ⟨n, hn, he⟩ := du_tight hv hg A ht
  have hi := netsAt_inside hn
  have hl := duTo_len F p ks ks.length
  have h0 := (du_step hv hg A ks.length (Nat.le_refl _)).1
  have hs : ∀ j, gi ((duTo F p ks ks.length).set t (gi (duTo F p ks ks.length) t + 1)) j = if j = t then gi (duTo F p ks ks.length) t + 1 else gi (duTo F p ks ks.length) j := du_set _ (by rw [hl]; exact ht) _
  rw [← Bool.not_eq_true]
  intro hh
  unfold pfB at hh
  rw [List.all_eq_true] at hh
  have h1 := hh _ (ks_mem ht)
  rw [List.all_eq_true] at h1
  have h2 := of_decide_eq_true (h1 n hn)
  rw [List.length_set, hl] at h2
  have h3 := dTo_mono n ks (ds := (duTo F p ks ks.length).set t (gi (duTo F p ks ks.length) t + 1)) (fun j => by
    rw [hs]
    have := h0 t
    have := h0 j
    split <;> omega) (t + 1) ks.length (by omega)
  rw [dTo, if_pos hi, hs t, if_pos rfl, dTo_congr n ks t (es := duTo F p ks ks.length) fun j hj => by rw [hs j, if_neg (by omega)]] at h3
  omega
/-- No cover costs less than the sum of duties that are a proof. -/
theorem dTo_cover {ks : List Nat} {ds : List Int} (h0 : ∀ i, 0 ≤ gi ds i) (xs : List Net) : ∀ t, (∀ i, i < t → ∃ x ∈ xs, x.inside (ks.getD i 0) = true) → duS (gi ds) t ≤ (xs.map fun x => dTo x ks ds t).sum
  | 0, _ => by
    have : (xs.map fun x => dTo x ks ds 0) = xs.map fun _ => (0 : Int) := rfl
    rw [this]
    have : ∀ l : List Net, (l.map fun _ => (0 : Int)).sum = 0 := fun l => by induction l <;> simp_all
    rw [this]
    exact Int.le_refl _
  | t + 1, h => by
    have ih := dTo_cover h0 xs t fun i hi => h i (by omega)
    obtain ⟨x, hx, hin⟩ := h t (by omega)
    have hd := h0 t
    have key : ∀ l : List Net, (l.map fun x => dTo x ks ds t).sum ≤ (l.map fun x => dTo x ks ds (t + 1)).sum := fun l => by
      induction l with
      | nil => exact Int.le_refl _
      | cons y l ihl =>
        rw [List.map_cons, List.map_cons, List.sum_cons, List.sum_cons, dTo]
        split <;> omega
    have key2 : ∀ l : List Net, x ∈ l → (l.map fun x => dTo x ks ds t).sum + gi ds t ≤ (l.map fun x => dTo x ks ds (t + 1)).sum := fun l => by
      induction l with
      | nil => intro h; cases h
      | cons y l ihl =>
        intro hm
        rw [List.map_cons, List.map_cons, List.sum_cons, List.sum_cons, dTo]
        rcases List.mem_cons.1 hm with rfl | hm
        · have := key l
          rw [if_pos hin]
          omega
        · have := ihl hm
          split <;> omega
    have := key2 xs hx
    rw [duS]
    omega
theorem du_bound (hv : F.valid = true) (hg : p.good = true) {c : Cs} (A : Aim F c.all) {xs : List Net} (hf : ∀ x ∈ xs, x.fits F = true) (hc : covers xs c) : duS (gi (duTo F p c.all c.all.length)) c.all.length ≤ costs p xs := by
  obtain ⟨h0, h1⟩ := du_step hv hg A c.all.length (Nat.le_refl _)
  have h2 := dTo_cover h0 xs c.all.length fun i hi => hc _ (ks_mem hi)
  have h3 : ∀ l : List Net, (∀ x ∈ l, x.fits F = true) → (l.map fun x => dTo x c.all (duTo F p c.all c.all.length) c.all.length).sum ≤ costs p l := fun l => by
    induction l with
    | nil => intro _; exact Int.le_refl _
    | cons y l ih =>
      intro h
      have h4 := ih fun x hx => h x (List.mem_cons_of_mem _ hx)
      have h5 := h1 y (h y (List.mem_cons_self ..))
      unfold costs at h4 ⊢
      rw [List.map_cons, List.map_cons, List.sum_cons, List.sum_cons]
      omega
  have := h3 xs hf
  omega
/-- The greedy nets cover all targets, and are no more than they. -/
theorem greedyFrom_covers (hv : F.valid = true) : ∀ (m : Nat) (left : Cs) (out R : List Net), GOk F p R left out → left.all.length ≤ m → (∀ k, (∃ x ∈ out, x.inside k = true) ∨ k ∈ left.all → ∃ x ∈ R, x.inside k = true) ∧ R.length ≤ out.length + left.all.length
  | 0, left, out, R, h, hm => by
    have h0 := all_nil h.ok h.cut (List.length_eq_zero_iff.1 (by omega))
    subst h0
    have := h.stop
    subst this
    refine ⟨fun k hk => ?_, by omega⟩
    rcases hk with hk | hk
    · exact hk
    · rw [z_all] at hk
      cases hk
  | m + 1, left, out, R, h, hm => by
    by_cases hz : left = Cs.z
    · subst hz
      have := h.stop
      subst this
      refine ⟨fun k hk => ?_, by omega⟩
      rcases hk with hk | hk
      · exact hk
      · rw [z_all] at hk
        cases hk
    · obtain ⟨k, r, ha, k1, _, _, hn, hb, h'⟩ := h.go hv hz
      have hm2 : k ∈ left.all := by rw [ha]; simp
      have hlt := without_lt hm2 (s := netSet (gBest p left (netsAt F k))) (by rw [netSet, pset_has _ k1]; exact netsAt_inside hb)
      obtain ⟨i1, i2⟩ := greedyFrom_covers hv m _ _ R h' (by omega)
      refine ⟨fun j hj => i1 j ?_, ?_⟩
      · rcases hj with ⟨x, hx, hi⟩ | hj
        · exact .inl ⟨x, List.mem_append_left _ hx, hi⟩
        · by_cases hin : (gBest p left (netsAt F k)).inside j = true
          · exact .inl ⟨_, List.mem_append_right _ (by simp), hin⟩
          · refine .inr ?_
            rw [without_all]
            refine List.mem_filter.2 ⟨hj, ?_⟩
            rw [netSet, pset_has _ (mem_all.1 hj).1]
            simpa using hin
      · rw [List.length_append, List.length_singleton] at i2
        omega
theorem gRes_covers {c : Cs} (hc : c.ok) (h0 : prCode F p [] c = 0) (hw : wood F c = false) : covers (gRes F p c) c ∧ (gRes F p c).length ≤ c.all.length := by
  have h1 := (prCode_0 h0).2
  have hs := GOk.start (p := p) hc h1 hw
  obtain ⟨a, b⟩ := greedyFrom_covers (netsOk_iff.1 (ntCode_0 h1).1).1 12 _ _ _ hs (by rw [cut_all]; exact (ntCode_0 h1).2.2.1)
  have he : gRes F p c = greedyFrom F p 12 c.cut [] := by rw [gRes, if_pos h0, hw]; rfl
  rw [he]
  refine ⟨fun k hk => a k (.inr (by rw [cut_all]; exact hk)), ?_⟩
  rw [cut_all, List.length_nil] at b
  omega
end Go.Proofs.Ytjkclggdaafmaaa
