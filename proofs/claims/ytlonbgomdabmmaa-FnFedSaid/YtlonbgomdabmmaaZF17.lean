/- Texts of a proof, laid together: FedP, NeqF, SameV, SameF, Same. -/
import Derived.Test.YtlonbgomdabmmaaZF12
import Derived.Test.YtlonbgomdabmmaaZF13
import Derived.Test.YtlonbgomdabmmaaZF14
import Derived.Test.YtlonbgomdabmmaaZF15
import Derived.Test.YtlonbgomdabmmaaZF16
import Derived.Test.YtlonbgomdabmmaaZF00
import Derived.Laws.StructEq
import Derived.Test.YtlonbgomdabmmaaZF07
import Derived.Test.YtlonbgomdabmmaaZF09
import Derived.Test.YtlonbgomdabmmaaZF02
import Derived.Test.YtlonbgomdabmmaaZF11
namespace Go.Proofs.Ytlonbgomdabmmaa
set_option linter.unusedSimpArgs false
set_option linter.unusedVariables false
open Go.RowKit

theorem Fld.valid_at {F : Fld} (h : F.valid = true) {j : Nat} (hj : j < 100) : F.okAt j = true := by
  simp only [Fld.valid, Bool.and_eq_true, List.all_eq_true, List.mem_range] at h
  exact h.2.2 j hj
theorem Fld.valid_wh {F : Fld} (h : F.valid = true) : inB F.wide 1 10 = true ∧ inB F.high 1 10 = true := by
  simp only [Fld.valid, Bool.and_eq_true] at h
  exact ⟨h.1, h.2.1⟩
/-- The same field but for its seeds. -/
structure Near (F G : Fld) : Prop where
  w : G.wide = F.wide
  h : G.high = F.high
  k : G.kinds = F.kinds
theorem Near.refl (F : Fld) : Near F F := ⟨rfl, rfl, rfl⟩
theorem Near.trans {F G H : Fld} (a : Near F G) (b : Near G H) : Near F H := ⟨b.w.trans a.w, b.h.trans a.h, b.k.trans a.k⟩
theorem Near.has {F G : Fld} (n : Near F G) (c : Int) : G.has c = F.has c := by unfold Fld.has; rw [n.w, n.h]
theorem Near.kind {F G : Fld} (n : Near F G) (k : Nat) : G.kind k = F.kind k := by unfold Fld.kind; rw [n.k]
theorem Near.fine {F G : Fld} (n : Near F G) (x : Flock) : x.fine G = x.fine F := by unfold Flock.fine Fld.tree; rw [n.has, n.kind]
theorem Near.fears {F G : Fld} (n : Near F G) (fs : List Int) : fearsOk G fs = fearsOk F fs := by
  unfold fearsOk
  refine congrArg (List.all _) (funext fun k => ?_)
  unfold fearAtOk
  rw [n.has]
theorem Near.seed {F G : Fld} (n : Near F G) (k : Nat) (x : Int) : Near F (G.withSeed k x) := ⟨n.w, n.h, n.k⟩
theorem Near.birds {F G : Fld} (n : Near F G) (hv : F.valid = true) (hg : G.valid = true) (fs : List Int) (xs : List Flock) : birdsOk G fs xs = birdsOk F fs xs := by
  unfold birdsOk flocksOk
  rw [hv, hg, n.fears, show (xs.all fun x => x.fine G) = xs.all fun x => x.fine F from congrArg (List.all xs) (funext fun x => n.fine x)]
theorem eat_valid {F : Fld} (hF : F.ok) (hv : F.valid = true) {k : Nat} (hk : k < 100) {s : Int} (h0 : 0 ≤ s) (h1 : s ≤ F.seed k) : (F.withSeed k (F.seed k - s)).ok ∧ (F.withSeed k (F.seed k - s)).valid = true := by
  have hb := hF.sb k
  obtain ⟨a, b⟩ := Fld.valid_wh hv
  refine ⟨Fld.withSeed_okF hF k _ (by omega), Fld.valid_of a b fun j hj => ?_⟩
  have h2 := Fld.okAt_iff.1 (Fld.valid_at hv hj)
  refine Fld.okAt_iff.2 ?_
  rw [Fld.seed_ws hF.toLen hk, show (F.withSeed k (F.seed k - s)).kind j = F.kind j from rfl, show (F.withSeed k (F.seed k - s)).has j = F.has j from rfl]
  by_cases hjk : j = k
  · subst hjk
    rw [if_pos rfl]
    exact ⟨h2.1, h2.2.1, by omega, by omega, fun e => by have := h2.2.2.2.2.1 e; omega, fun e => by have := h2.2.2.2.2.2 e; omega⟩
  · rw [if_neg hjk]
    exact h2
theorem seedSum_ws {F : Fld} (hF : F.len) {k : Nat} (hk : k < 100) (x : Int) : ∀ n, seedSum (F.withSeed k x) n = if k < n then seedSum F n - F.seed k + x else seedSum F n
  | 0 => by rw [if_neg (Nat.not_lt_zero _)]; rfl
  | n + 1 => by
    rw [seedSum, seedSum, seedSum_ws hF hk x n, Fld.seed_ws hF hk]
    rcases Nat.lt_trichotomy k n with h | h | h
    · rw [if_pos h, if_neg (by omega), if_pos (by omega)]
      omega
    · rw [if_neg (by omega), if_pos h.symm, if_pos (by omega), h]
      omega
    · rw [if_neg (by omega), if_neg (by omega), if_neg (by omega)]
/-- What a visit leaves. -/
def eatV (F : Fld) (v : Visit) : Fld := F.withSeed v.cell.toNat (F.seed v.cell.toNat - v.seeds)
structure VOk (fs : List Int) (xs : List Flock) (F : Fld) (lo : Int) (v : Visit) : Prop where
  lo : lo ≤ v.flock
  ix : ∃ i : Nat, ∃ h : i < xs.length, v.flock = i ∧ gi fs v.cell.toNat ≤ xs[i].bold
  cl : ∃ k : Nat, k < 100 ∧ v.cell = k ∧ F.has k = true
  s1 : 1 ≤ v.seeds
  s2 : v.seeds ≤ F.seed v.cell.toNat
inductive Chain (fs : List Int) (xs : List Flock) : Fld → Int → List Visit → Fld → Prop
  | nil (F : Fld) (lo : Int) : Chain fs xs F lo [] F
  | cons {F G : Fld} {lo : Int} {v : Visit} {vs : List Visit} : VOk fs xs F lo v → Chain fs xs (eatV F v) v.flock vs G → Chain fs xs F lo (v :: vs) G
section
variable {fs : List Int} {xs : List Flock}
theorem Chain.low {F G : Fld} {lo lo' : Int} {vs : List Visit} (h : Chain fs xs F lo vs G) (hl : lo' ≤ lo) : Chain fs xs F lo' vs G := by
  cases h with
  | nil => exact .nil F lo'
  | cons a b => exact .cons ⟨Int.le_trans hl a.lo, a.ix, a.cl, a.s1, a.s2⟩ b
theorem Chain.app {F G : Fld} {lo : Int} {vs : List Visit} (h : Chain fs xs F lo vs G) : ∀ {m : Int} {ws : List Visit} {H : Fld}, (∀ v ∈ vs, v.flock ≤ m) → lo ≤ m → Chain fs xs G m ws H → Chain fs xs F lo (vs ++ ws) H := by
  induction h with
  | nil F lo =>
    intro m ws H _ hl h2
    exact h2.low hl
  | cons a b ih =>
    intro m ws H hm hl h2
    exact .cons a (ih (fun v hv => hm v (List.mem_cons_of_mem _ hv)) (hm _ (List.mem_cons_self ..)) h2)
theorem eatV_ok {F : Fld} (hF : F.ok) (hv : F.valid = true) {lo : Int} {v : Visit} (h : VOk fs xs F lo v) : (eatV F v).ok ∧ (eatV F v).valid = true ∧ Near F (eatV F v) ∧ seedSum (eatV F v) 100 = seedSum F 100 - v.seeds := by
  obtain ⟨k, hk, he, _⟩ := h.cl
  have h1 := h.s1
  have h2 := h.s2
  have e : v.cell.toNat = k := by rw [he]; rfl
  rw [e] at h2
  unfold eatV
  rw [e]
  obtain ⟨a, b⟩ := eat_valid hF hv hk (by omega : 0 ≤ v.seeds) h2
  refine ⟨a, b, (Near.refl F).seed k _, ?_⟩
  rw [seedSum_ws hF.toLen hk, if_pos hk]
  omega
theorem Chain.end_ {F G : Fld} {lo : Int} {vs : List Visit} (h : Chain fs xs F lo vs G) : F.ok → F.valid = true → G.ok ∧ G.valid = true ∧ Near F G ∧ seedSum G 100 = seedSum F 100 - seedsOf vs := by
  induction h with
  | nil F lo => exact fun a b => ⟨a, b, Near.refl _, by simp [seedsOf]⟩
  | cons a b ih =>
    intro hF hv
    obtain ⟨c1, c2, c3, c4⟩ := eatV_ok hF hv a
    obtain ⟨d1, d2, d3, d4⟩ := ih c1 c2
    exact ⟨d1, d2, c3.trans d3, by rw [seedsOf_cons]; omega⟩
/-- The field behind the first visits. -/
def nowAt (F : Fld) (vs : List Visit) (k : Nat) : Fld := (vs.take k).foldl eatV F
theorem nowAt_cons (F : Fld) (v : Visit) (vs : List Visit) (k : Nat) : nowAt F (v :: vs) (k + 1) = nowAt (eatV F v) vs k := rfl
theorem nowAt_succ (F : Fld) {vs : List Visit} {k : Nat} (hk : k < vs.length) : nowAt F vs (k + 1) = eatV (nowAt F vs k) vs[k] := by
  unfold nowAt
  rw [List.take_succ_eq_append_getElem hk, List.foldl_append]
  rfl
def flk (vs : List Visit) (k : Nat) : Int := match vs[k]? with | some v => v.flock | none => 0
theorem flk_at {vs : List Visit} {k : Nat} (h : k < vs.length) : flk vs k = vs[k].flock := by unfold flk; rw [List.getElem?_eq_getElem h]
theorem Chain.at_ {F G : Fld} {lo : Int} {vs : List Visit} (h : Chain fs xs F lo vs G) : F.ok → F.valid = true → nowAt F vs vs.length = G ∧ ∀ k (hk : k < vs.length), VOk fs xs (nowAt F vs k) (if k = 0 then lo else flk vs (k - 1)) vs[k] ∧ (nowAt F vs k).ok ∧ (nowAt F vs k).valid = true ∧ Near F (nowAt F vs k) := by
  induction h with
  | nil F lo => exact fun _ _ => ⟨rfl, fun k hk => absurd hk (Nat.not_lt_zero _)⟩
  | @cons F G lo v vs a b ih =>
    intro hF hv
    obtain ⟨c1, c2, c3, _⟩ := eatV_ok hF hv a
    obtain ⟨e1, e2⟩ := ih c1 c2
    refine ⟨e1, fun k hk => ?_⟩
    cases k with
    | zero => exact ⟨by rw [if_pos rfl]; exact a, hF, hv, Near.refl _⟩
    | succ k =>
      obtain ⟨f1, f2, f3, f4⟩ := e2 k (by simpa using hk)
      rw [nowAt_cons]
      refine ⟨?_, f2, f3, c3.trans f4⟩
      rw [if_neg (by omega)]
      have he : flk (v :: vs) (k + 1 - 1) = if k = 0 then v.flock else flk vs (k - 1) := by
        cases k with
        | zero => rfl
        | succ k => rfl
      rw [he]
      exact f1
end
/-! ### A flock, and a day -/
theorem feedGo_chain {fs : List Int} {xs : List Flock} {i : Nat} (hi : i < xs.length) : ∀ (m : Nat) (F : Fld) (l : Int), F.ok → 0 ≤ l → Chain fs xs F i (feedGo fs xs[i] i m F l).2.1 (feedGo fs xs[i] i m F l).1
  | 0, F, l, _, _ => .nil F i
  | m + 1, F, l, hF, hl => by
    rw [feedGo]
    split
    · exact .nil F i
    · next h =>
      rcases choice_of F fs xs[i] with hc | ⟨k, hk, hp, hc⟩
      · omega
      · rw [hc, Int.toNat_natCast]
        have hs := goP_seed hp
        have hn : 1 ≤ F.eatN k l ∧ F.eatN k l ≤ l ∧ F.eatN k l ≤ F.seed k := by unfold Fld.eatN; omega
        rw [Bool.and_eq_true] at hp
        have hb : gi fs k ≤ xs[i].bold := by
          have := hp.2
          simp only [goP, Bool.and_eq_true, decide_eq_true_eq] at this
          exact this.2.1
        have ih := feedGo_chain (fs := fs) hi m (F.eat k l) (l - F.eatN k l) (Fld.eat_ok hF k hl (by omega)) (by omega)
        refine .cons ⟨Int.le_refl _, ⟨i, hi, rfl, ?_⟩, ⟨k, hk, rfl, hp.1⟩, hn.1, ?_⟩ ?_
        · rw [show (⟨(i : Int), (k : Int), F.eatN k l⟩ : Visit).cell.toNat = k from rfl]
          exact hb
        · rw [show (⟨(i : Int), (k : Int), F.eatN k l⟩ : Visit).cell.toNat = k from rfl]
          exact hn.2.2
        · exact ih
theorem dayTo_chain {F : Fld} (hF : F.ok) (fs : List Int) {xs : List Flock} (hx : ∀ x ∈ xs, x.plain = true) : ∀ k, k ≤ xs.length → Chain fs xs F 0 (dayTo F fs xs k).2.1 (dayTo F fs xs k).1 ∧ ∀ v ∈ (dayTo F fs xs k).2.1, v.flock < (k : Int)
  | 0, _ => ⟨.nil F 0, fun v hv => by cases hv⟩
  | k + 1, hk => by
    obtain ⟨i1, i2⟩ := dayTo_chain hF fs hx k (by omega)
    have hok := (dayTo_ok hF fs hx k (by omega)).1
    have hp := hx xs[k] (List.getElem_mem (by omega))
    have hc := feedGo_chain (fs := fs) (xs := xs) (i := k) (by omega) 4 (dayTo F fs xs k).1 xs[k].hunger hok (hunger_small hp).1
    rw [dayTo_succ F fs (by omega)]
    refine ⟨i1.app (fun v hv => by have := i2 v hv; omega) (by omega) hc, fun v hv => ?_⟩
    rcases List.mem_append.1 hv with h | h
    · have := i2 v h
      push_cast
      omega
    · have := ((feedOf_visits hok fs hp k).1 v h).1
      push_cast
      omega
def fedS (f : Nat → Int) : Nat → Int
  | 0 => 0
  | i + 1 => fedS f i + f i
theorem fedS_congr {f g : Nat → Int} : ∀ n, (∀ i, i < n → f i = g i) → fedS f n = fedS g n
  | 0, _ => rfl
  | n + 1, h => by rw [fedS, fedS, fedS_congr n fun i hi => h i (by omega), h n (by omega)]
def hgr (xs : List Flock) (i : Nat) : Int := match xs[i]? with | some x => x.hunger | none => 0
theorem hgr_at {xs : List Flock} {i : Nat} (h : i < xs.length) : hgr xs i = xs[i].hunger := by unfold hgr; rw [List.getElem?_eq_getElem h]
theorem seedsOf_app (a b : List Visit) : seedsOf (a ++ b) = seedsOf a + seedsOf b := by unfold seedsOf; rw [List.map_append, List.sum_append]
theorem giL_snoc (ds : List Int) (x : Int) (i : Nat) : gi (ds ++ [x]) i = if i < ds.length then gi ds i else if i = ds.length then x else 0 := by
  unfold gi
  rw [List.getD_eq_getElem?_getD, List.getD_eq_getElem?_getD]
  by_cases h : i < ds.length
  · rw [if_pos h, List.getElem?_append_left h]
  · rw [if_neg h, List.getElem?_append_right (by omega)]
    by_cases h2 : i = ds.length
    · rw [if_pos h2, h2, Nat.sub_self]
      rfl
    · rw [if_neg h2, List.getElem?_eq_none (by simp; omega)]
      rfl
/-- What each flock still wants, and what all have eaten. -/
theorem dayTo_left {F : Fld} (hF : F.ok) (fs : List Int) {xs : List Flock} (hx : ∀ x ∈ xs, x.plain = true) : ∀ k, k ≤ xs.length → (∀ i, i < k → 0 ≤ gi (dayTo F fs xs k).2.2 i ∧ gi (dayTo F fs xs k).2.2 i ≤ hgr xs i) ∧ seedsOf (dayTo F fs xs k).2.1 = fedS (fun i => hgr xs i - gi (dayTo F fs xs k).2.2 i) k
  | 0, _ => ⟨fun i hi => absurd hi (Nat.not_lt_zero _), rfl⟩
  | k + 1, hk => by
    obtain ⟨i1, i2⟩ := dayTo_left hF fs hx k (by omega)
    obtain ⟨hok, _, hl⟩ := dayTo_ok hF fs hx k (by omega)
    have hp := hx xs[k] (List.getElem_mem (by omega))
    have hh := hunger_small hp
    have hg := feedGo_ok fs xs[k] k 4 (dayTo F fs xs k).1 xs[k].hunger hok hh.1
    have hv := (feedOf_visits hok fs hp k).2
    rw [dayTo_succ F fs (by omega)]
    refine ⟨fun i hi => ?_, ?_⟩
    · rw [giL_snoc, hl]
      rcases Nat.lt_or_ge i k with h | h
      · rw [if_pos h]
        exact i1 i h
      · obtain rfl : i = k := by omega
        rw [if_neg (by omega), if_pos rfl, hgr_at (by omega)]
        exact ⟨hg.2.1, hg.2.2.1⟩
    · rw [fedS, seedsOf_app, i2, hv]
      dsimp only
      rw [giL_snoc, hl, if_neg (by omega), if_pos rfl, hgr_at (by omega), fedS_congr k (g := fun i => hgr xs i - gi ((dayTo F fs xs k).2.2 ++ [(feedOf (dayTo F fs xs k).1 fs xs[k] k).2.2]) i) fun i hi => by rw [giL_snoc, hl, if_pos hi]]
theorem hungryTo_any (l : List Int) {n k : Nat} (hk : k < n) : (hungryTo l n).any (fun z => z == (k : Int)) = decide (0 < gi l k) := by
  rw [Bool.eq_iff_iff, List.any_eq_true, decide_eq_true_iff]
  unfold hungryTo
  constructor
  · rintro ⟨z, hz, he⟩
    obtain ⟨i, hi, rfl⟩ := List.mem_map.1 hz
    have h1 := of_decide_eq_true (List.mem_filter.1 hi).2
    have h2 : (i : Int) = (k : Int) := by simpa using he
    obtain rfl : i = k := by omega
    exact h1
  · intro h
    exact ⟨k, List.mem_map.2 ⟨k, List.mem_filter.2 ⟨List.mem_range.2 hk, decide_eq_true h⟩, rfl⟩, by simp⟩
/-! ### The whole -/
structure FedSay (F : Fld) (fs : List Int) (xs : List Flock) (G : Fld) (vs : List Visit) (E H : List Int) : Prop where
  gok : G.ok
  gv : G.valid = true
  el : E.length = xs.length
  e0 : ∀ i, i < xs.length → 0 ≤ gi E i ∧ gi E i ≤ hgr xs i
  hs : ∀ i, i < xs.length → H.any (fun z => z == (i : Int)) = decide (gi E i < hgr xs i)
  es : fedS (gi E) xs.length = seedSum F 100 - seedSum G 100
  ch : Chain fs xs F 0 vs G
  vl : vs.length ≤ 4 * xs.length
  gs : seedSum G 100 ≤ seedSum F 100
theorem birds_fine {F : Fld} {fs : List Int} {xs : List Flock} (hv : F.valid = true) (hf : fearsOk F fs = true) (hx : ∀ x ∈ xs, x.fine F = true) (hl : xs.length ≤ 12) : birdsOk F fs xs = true := by
  rw [birdsOk, hv, hf, flocksOk, decide_eq_true hl, show (xs.all fun x => x.fine F) = true from List.all_eq_true.2 hx]
  rfl
theorem seedsOf_nonneg {fs : List Int} {xs : List Flock} {F G : Fld} {lo : Int} {vs : List Visit} (h : Chain fs xs F lo vs G) : 0 ≤ seedsOf vs := by
  induction h with
  | nil => simp [seedsOf]
  | cons a b ih =>
    rw [seedsOf_cons]
    have := a.s1
    omega
theorem fedSay {F : Fld} (hF : F.ok) (hv : F.valid = true) {fs : List Int} {xs : List Flock} (hx : ∀ x ∈ xs, x.fine F = true) (hl : xs.length ≤ 12) :
    FedSay F fs xs (dayOf F fs xs).1 (dayOf F fs xs).2.1 (sumsOf xs.length (dayOf F fs xs).2.1) (hungryTo (dayOf F fs xs).2.2 xs.length) := by
  have hp : ∀ x ∈ xs, x.plain = true := fun x h => fine_plain (hx x h)
  obtain ⟨c1, _⟩ := dayTo_chain hF fs hp xs.length (Nat.le_refl _)
  obtain ⟨d1, d2, d3, d4⟩ := c1.end_ hF hv
  obtain ⟨l1, l2⟩ := dayTo_left hF fs hp xs.length (Nat.le_refl _)
  have hsum := dayTo_sums hF fs hp xs.length (Nat.le_refl _)
  have he : ∀ i, i < xs.length → gi (sumsOf xs.length (dayOf F fs xs).2.1) i = hgr xs i - gi (dayOf F fs xs).2.2 i := fun i hi => by
    have := hsum i
    rw [dif_pos ⟨hi, hi⟩, ← hgr_at hi] at this
    exact this
  have h0 := seedsOf_nonneg c1
  exact {
    gok := d1
    gv := d2
    el := sumsOf_len _ _
    e0 := fun i hi => by have := l1 i hi; rw [he i hi]; unfold dayOf; omega
    hs := fun i hi => by
      rw [hungryTo_any _ hi, he i hi]
      by_cases h : 0 < gi (dayOf F fs xs).2.2 i
      · rw [decide_eq_true h, decide_eq_true (by omega)]
      · rw [decide_eq_false h, decide_eq_false (by omega)]
    es := by
      rw [fedS_congr xs.length he]
      have : seedsOf (dayOf F fs xs).2.1 = _ := l2
      unfold dayOf at this ⊢
      rw [← this]
      omega
    ch := c1
    vl := (dayTo_ok hF fs hp xs.length (Nat.le_refl _)).2.1
    gs := by
      have : seedSum (dayOf F fs xs).1 100 = _ := d4
      omega }
/-- One flock alone: what it eats first. -/
theorem once_first {F : Fld} (fs : List Int) {x : Flock} (hb : birdsOk F fs [x] = true) :
    (eoCode F fs x = 0 → (feedOf F fs x 0).2.1[0]? = some (eoV F fs x) ∧ 0 < (feedOf F fs x 0).2.1.length ∧ ∃ k : Nat, k < 100 ∧ (eoV F fs x).cell = k ∧ eoF F fs x = F.withSeed k (F.seed k - (eoV F fs x).seeds)) ∧
    (eoCode F fs x ≠ 0 → (feedOf F fs x 0).2.1 = []) := by
  have hp := birds1_plain hb
  have hh := hunger_small hp
  unfold feedOf
  rw [feedGo]
  have e1 : eoCode F fs x = if choiceOf F fs x < 0 then 6 else if x.hunger = 0 then 4 else 0 := by rw [eoCode, if_pos hb]
  by_cases h : x.hunger ≤ 0 ∨ choiceOf F fs x < 0
  · rw [if_pos h]
    refine ⟨fun h0 => ?_, fun _ => rfl⟩
    rw [e1] at h0
    rcases h with h | h
    · by_cases hc : choiceOf F fs x < 0
      · rw [if_pos hc] at h0
        cases h0
      · rw [if_neg hc, if_pos (by omega)] at h0
        cases h0
    · rw [if_pos h] at h0
      cases h0
  · rw [if_neg h]
    rcases choice_of F fs x with hc | ⟨k, hk, _, hc⟩
    · omega
    · have h0 : eoCode F fs x = 0 := by rw [e1, if_neg (by omega), if_neg (by omega)]
      refine ⟨fun _ => ⟨?_, by simp, k, hk, ?_, ?_⟩, fun h9 => absurd h0 h9⟩
      · rw [eoV, if_pos h0]
        rfl
      · rw [eoV, if_pos h0]
        exact hc
      · rw [eoV, eoF, if_pos h0, if_pos h0, hc]
        rfl
/-- Days one by one. -/
theorem fdTo_all {F : Fld} (hF : F.ok) (hv : F.valid = true) {fs : List Int} {xs : List Flock} (hx : ∀ x ∈ xs, x.fine F = true) (hl : xs.length ≤ 12) : ∀ d, (fdTo F fs xs d).1.ok ∧ (fdTo F fs xs d).1.valid = true ∧ Near F (fdTo F fs xs d).1
  | 0 => ⟨hF, hv, Near.refl F⟩
  | d + 1 => by
    obtain ⟨a, b, c⟩ := fdTo_all hF hv hx hl d
    have hp : ∀ x ∈ xs, x.plain = true := fun x h => fine_plain (hx x h)
    obtain ⟨c1, _⟩ := dayTo_chain a fs hp xs.length (Nat.le_refl _)
    obtain ⟨d1, d2, d3, _⟩ := c1.end_ a b
    exact ⟨d1, d2, c.trans d3⟩
theorem fdTo_gi (F : Fld) (fs : List Int) (xs : List Flock) (d : Nat) : ∀ n, d < n → gi (fdTo F fs xs n).2 d = seedSum (fdTo F fs xs d).1 100 - seedSum (fdTo F fs xs (d + 1)).1 100
  | 0, h => absurd h (Nat.not_lt_zero _)
  | n + 1, h => by
    rw [show (fdTo F fs xs (n + 1)).2 = (fdTo F fs xs n).2 ++ [seedSum (fdTo F fs xs n).1 100 - seedSum (dayOf (fdTo F fs xs n).1 fs xs).1 100] from rfl, giL_snoc, fdTo_len]
    rcases Nat.lt_or_ge d n with h1 | h1
    · rw [if_pos h1]
      exact fdTo_gi F fs xs d n h1
    · obtain rfl : d = n := by omega
      rw [if_neg (by omega), if_pos rfl]
      rfl
/-- All birds. -/
def birdsTo (xs : List Flock) : Nat → Int
  | 0 => 0
  | i + 1 => birdsTo xs i + (match xs[i]? with | some x => x.birds | none => 0)
theorem birdsTo_b {xs : List Flock} (hp : ∀ x ∈ xs, x.plain = true) : ∀ i, 0 ≤ birdsTo xs i ∧ birdsTo xs i ≤ 200 * (i : Int)
  | 0 => ⟨Int.le_refl 0, Int.le_refl 0⟩
  | i + 1 => by
    have ih := birdsTo_b hp i
    rw [birdsTo]
    cases h : xs[i]? with
    | none => dsimp only; omega
    | some x =>
      have := (Flock.plain_iff.1 (hp x (List.mem_of_getElem? h))).2.1
      dsimp only
      omega
theorem birdsTo_congr {xs ys : List Flock} : ∀ n, (∀ i, i < n → xs[i]? = ys[i]?) → birdsTo xs n = birdsTo ys n
  | 0, _ => rfl
  | n + 1, h => by rw [birdsTo, birdsTo, birdsTo_congr n fun i hi => h i (by omega), h n (by omega)]
theorem spAt_0 (x : Flock) (r : List Flock) (b : Int) : spAt (x :: r) 0 b = { x with birds := x.birds - b } :: (r ++ [{ x with birds := b }]) := rfl
theorem birdsTo_cons (x : Flock) (r : List Flock) : ∀ n, birdsTo (x :: r) (n + 1) = x.birds + birdsTo r n
  | 0 => by simp [birdsTo]
  | n + 1 => by
    rw [birdsTo, birdsTo_cons x r n, birdsTo, show (x :: r)[n + 1]? = r[n]? from rfl]
    omega
theorem birdsTo_snoc (r : List Flock) (y : Flock) : birdsTo (r ++ [y]) (r.length + 1) = birdsTo r r.length + y.birds := by
  rw [birdsTo, birdsTo_congr r.length (ys := r) fun i hi => List.getElem?_append_left hi, List.getElem?_append_right (Nat.le_refl _), Nat.sub_self]
  rfl
theorem split_all {F : Fld} (x : Flock) (r : List Flock) {b : Int} (h0 : 0 ≤ b) (h1 : b ≤ x.birds) (hx : ∀ y ∈ x :: r, y.fine F = true) (ho : ∀ y ∈ x :: r, y.ok) :
    (∀ y ∈ spAt (x :: r) 0 b, y.fine F = true ∧ y.ok) ∧ (spAt (x :: r) 0 b).length = r.length + 2 ∧ birdsTo (spAt (x :: r) 0 b) (r.length + 2) = birdsTo (x :: r) (r.length + 1) ∧ (spAt (x :: r) 0 b)[r.length + 1]? = some { x with birds := b } := by
  have hf := hx x (List.mem_cons_self ..)
  have hok := ho x (List.mem_cons_self ..)
  have hpl := Flock.plain_iff.1 (fine_plain hf)
  have key : ∀ c : Int, 0 ≤ c → c ≤ x.birds → (({ x with birds := c } : Flock).fine F = true ∧ ({ x with birds := c } : Flock).ok) := fun c c0 c1 => by
    refine ⟨?_, ?_⟩
    · rw [Flock.fine, Bool.and_eq_true] at hf ⊢
      refine ⟨Flock.plain_iff.2 ⟨hpl.1, ⟨c0, by dsimp only; omega⟩, hpl.2.2⟩, hf.2⟩
    · exact { hok with birds := ⟨by dsimp only; omega, by dsimp only; omega⟩ }
  rw [spAt_0]
  refine ⟨fun y hy => ?_, by simp, ?_, by simp⟩
  · rcases List.mem_cons.1 hy with rfl | hy
    · exact key _ (by omega) (by omega)
    · rcases List.mem_append.1 hy with hy | hy
      · exact ⟨hx y (List.mem_cons_of_mem _ hy), ho y (List.mem_cons_of_mem _ hy)⟩
      · rw [List.mem_singleton.1 hy]
        exact key b h0 h1
  · rw [birdsTo_cons, birdsTo_cons, birdsTo_snoc]
    dsimp only
    omega
end Go.Proofs.Ytlonbgomdabmmaa
namespace Go.Proofs.Ytlonbgomdabmmaa
set_option linter.unusedSimpArgs false
set_option linter.unusedVariables false
open Go.RowKit
theorem run_eqArr {P : Program} (d : Nat) (t e : TypeId) (n : Nat) (k : IntKind) (l : List Int) (hl : l.length = n) (hu : P.underlying t = some (.array n e)) (he : P.underlying e = some (.int k)) (ha : ∀ w, Sem.run P (isAgg e) w = .ok false w) (hz : ∀ w, Sem.run P (sizeOf e) w = .ok 1 w) (w : World) :
    (Op.equalIn (d + 2) t (.agg (ints k l)) (.agg (ints k l))).run P w = .ok true w := by
  have key : ∀ m s, s + m ≤ n → Sem.run P (forIn (List.range' s m) ((none, ()) : Option Bool × Unit) fun i _ => do
      let a ← part e (ints k l) (i * 1)
      let b ← part e (ints k l) (i * 1)
      let c ← Op.equalIn (d + 1) e a b
      if (!c) = true then pure (ForInStep.done (some false, ())) else pure (ForInStep.yield (none, ()))) w = .ok (none, ()) w := by
    intro m
    induction m with
    | zero => intro s _; simp
    | succ m ih =>
      intro s hs
      have x0 : (ints k l)[s * 1]? = some (.int k (gi l s)) := by rw [Nat.mul_one]; exact ints_at (by omega)
      rw [List.range'_succ, List.forIn_cons]
      have hp : Sem.run P (part e (ints k l) (s * 1)) w = .ok (.int k (gi l s)) w := by
        unfold part
        simp only [Sem.run_bind, ha, Result.andThen_ok, Bool.false_eq_true, if_false, x0, Sem.run_pure]
      simp only [Sem.run_bind, hp, Result.andThen_ok, run_equalIn_int _ d e k k _ _ he, beq_self_eq_true, Bool.not_true, Bool.false_eq_true, if_false, Sem.run_pure]
      exact ih (s + 1) (by omega)
  rw [Op.equalIn]
  simp only [Sem.run_bind, run_underlying hu, Result.andThen_ok]
  simp only [Std.Legacy.Range.forIn_eq_forIn_range', Std.Legacy.Range.size, Nat.sub_zero, Nat.add_sub_cancel, Nat.div_one, hz, Result.andThen_ok]
  rw [key n 0 (by omega)]
  rfl
theorem ext_ints {cs : Array Value} {k : IntKind} {xs : List Int} {off : Nat} (h : ∀ j v, (xs.map (Value.int k))[j]? = some v → cs[off + j]? = some v) (hs : off + xs.length ≤ cs.size) : cs.extract off (off + xs.length) = ints k xs := by
  apply Array.ext'
  apply List.ext_getElem?
  intro j
  rw [Array.getElem?_toList, Array.getElem?_toList, Array.getElem?_extract]
  rcases Nat.lt_or_ge j xs.length with hj | hj
  · have hv : (xs.map (Value.int k))[j]? = some (.int k xs[j]) := by rw [List.getElem?_map, List.getElem?_eq_getElem hj]; rfl
    rw [if_pos (by omega), h j _ hv]
    simp [ints, hj]
  · rw [if_neg (by omega)]
    simp [ints, hj]
theorem eqFields_self {P : Program} (d : Nat) (xs : Array Value) (w : World) : ∀ fs : List Field, (∀ f ∈ fs, ∃ a, Sem.run P (part f.type xs f.offset) w = .ok a w ∧ Sem.run P (Op.equalIn d f.type a a) w = .ok true w) → Sem.run P (Op.eqFields d xs xs fs) w = .ok true w
  | [], _ => by simp [Op.eqFields]
  | f :: fs, h => by
    obtain ⟨a, h1, h2⟩ := h f (List.mem_cons_self ..)
    have ih := eqFields_self d xs w fs fun g hg => h g (List.mem_cons_of_mem _ hg)
    rw [Op.eqFields]
    split
    · simp only [Sem.run_bind, h1, h2, Result.andThen_ok, Bool.not_true, Bool.false_eq_true, if_false]
      exact ih
    · exact ih
theorem neqFld (F : Fld) (hF : F.len) (w : World) : (binOp .neq 29 (.agg F.cells) (.agg F.cells)).run Try.prog w = .ok (.bool false) w := by
  have s1 := Fld.size hF
  have e1 : F.cells.extract 2 102 = ints .u8 F.kinds := by
    have := ext_ints (fun j v hv => Fld.cellsK hF j v hv) (by rw [s1, hF.kl]; omega)
    rwa [hF.kl] at this
  have e2 : F.cells.extract 102 202 = ints .i16 F.seeds := by
    have := ext_ints (fun j v hv => Fld.cellsS hF j v hv) (by rw [s1, hF.sl]; omega)
    rwa [hF.sl] at this
  have q1 := run_eqArr 9997 25 5 100 .u8 F.kinds hF.kl Try.underlying25 Try.underlying5 Try.isAgg5 Try.sizeOf5 w
  have q2 := run_eqArr 9997 27 26 100 .i16 F.seeds hF.sl Try.underlying27 Try.underlying26 Try.isAgg26 Try.sizeOf26 w
  have c0 := Fld.cell0 F
  have c1 := Fld.cell1 F
  have u24 := Try.underlying24
  have a24 := Try.isAgg24
  have a25 := Try.isAgg25
  have a27 := Try.isAgg27
  have z25 := Try.sizeOf25
  have z27 := Try.sizeOf27
  rw [run_neq_struct, show (10000 : Nat) = 9999 + 1 from rfl, run_equalIn_struct w 9999 29 _ _ (by kernel_rfl) (by kernel_rfl)]
  rw [eqFields_self 9999 F.cells w _ fun f hf => ?_]
  · rfl
  · have hall : ((Try.prog.fieldsOf 29).toList.all fun f => (f.type == 24 && f.offset == 0) || (f.type == 24 && f.offset == 1) || (f.type == 25 && f.offset == 2) || (f.type == 27 && f.offset == 102)) = true := by kernel_rfl
    have h1 := List.all_eq_true.1 hall f hf
    simp only [Bool.or_eq_true, Bool.and_eq_true, beq_iff_eq] at h1
    rcases h1 with ((⟨h1, h2⟩ | ⟨h1, h2⟩) | ⟨h1, h2⟩) | ⟨h1, h2⟩ <;> rw [h1, h2]
    · refine ⟨_, ?_, run_equalIn_int w 9998 24 .i8 .i8 F.wide F.wide u24 |>.trans (by rw [beq_self_eq_true])⟩
      unfold part
      simp only [Sem.run_bind, a24, Result.andThen_ok, Bool.false_eq_true, if_false, c0, Sem.run_pure]
    · refine ⟨_, ?_, run_equalIn_int w 9998 24 .i8 .i8 F.high F.high u24 |>.trans (by rw [beq_self_eq_true])⟩
      unfold part
      simp only [Sem.run_bind, a24, Result.andThen_ok, Bool.false_eq_true, if_false, c1, Sem.run_pure]
    · refine ⟨_, ?_, q1⟩
      unfold part
      simp only [Sem.run_bind, a25, z25, Result.andThen_ok, if_true, Sem.run_pure, e1]
    · refine ⟨_, ?_, q2⟩
      unfold part
      simp only [Sem.run_bind, a27, z27, Result.andThen_ok, if_true, Sem.run_pure, e2]
end Go.Proofs.Ytlonbgomdabmmaa
namespace Go.Proofs.Ytlonbgomdabmmaa
set_option linter.unusedSimpArgs false
set_option linter.unusedVariables false
open Go.RowKit
attribute [local go_sem] cell?_mk frozen?_mk
--ONES exact Visit.one _

theorem sl_rangeVisit {w : World} {sz b off n k : Nat} {cs : List Value} (h : Sl w sz (some ⟨b, off, none⟩) n cs) (hn : k < n) : w.rangeAt b off cs := by
  obtain ⟨b1, o1, hB, hr⟩ := h.2 (by omega)
  cases hB
  exact hr
theorem neqVisit (x : Visit) (w : World) : (binOp .neq 51 (.agg x.vals.toArray) (.agg x.vals.toArray)).run Try.prog w = .ok (.bool false) w := by
  have ui16 := Try.underlying26
  have ai16 := Try.isAgg26
  have zi16 := Try.sizeOf26
  have ui8 := Try.underlying24
  have ai8 := Try.isAgg24
  have zi8 := Try.sizeOf24
  have u4 := Try.underlying51
  unfold Visit.vals
  obtain ⟨e0, e1, e2⟩ := x
  go_simp
set_option maxRecDepth 100000 in
set_option maxHeartbeats 2000000 in
theorem VisitSame_any (A B : Option Addr) (c d : Nat) (xs : List Visit) (w : World) (hl : xs.length ≤ 1048576) (hx : Sl w 3 A xs.length (flat Visit.vals xs)) (hy : Sl w 3 B xs.length (flat Visit.vals xs)) :
    Calls Try.prog 13 #[.slice A xs.length c, .slice B xs.length d] w fun e w' => e = .returned (.bool true) ∧ Mem w w' [] := by
  have M := Lib.hid (Mem.start w)
  have HX := Lib.hid hx
  have HY := Lib.hid hy
  clear hx hy
  go_enter Try.func13, Try.ntmps13
  go_wp2
  go_loopw [5] (fun v wr => ∃ k : Nat, k ≤ xs.length ∧ v = .int .i64 k ∧ Mem w wr [])
    (fun v _ => xs.length - (intOf v).toNat)
  case atStart => exact ⟨0, by omega, rfl, M.out⟩
  case round =>
    clear M
    obtain ⟨k, hk, rfl, m⟩ := hrel
    have M := Lib.hid m
    clear m
    by_cases hlt : k < xs.length
    · obtain ⟨b, off, rfl, _⟩ := HX.out.2 (by omega)
      obtain ⟨b2, off2, rfl, _⟩ := HY.out.2 (by omega)
      have HXK := Lib.hid (show xs[k]? = some xs[k] from List.getElem?_eq_getElem hlt)
      have i0 : (0 : Int) ≤ (k : Int) := by omega
      have i1 : (k : Int) < (xs.length : Int) := by omega
      obtain ⟨x, hx⟩ : ∃ x, x = xs[k] := ⟨_, rfl⟩
      rw [← hx] at HXK
      clear hx
      have heq := neqVisit x
      go_wp2
      refine region_anyH (fun w' => Mem w w' []) (by kernel_rfl) ?_
      have m := M.out.drew
      clear M
      have M := Lib.hid m
      clear m
      apply takeH (i := 0) 17 rfl (by kernel_rfl) (by kernel_rfl) (by kernel_rfl) (fun _ _ _ h => h) rfl (by first | exact M.out | exact M.out.take 0)
      case' hy =>
        refine Or.inl ⟨by first | rfl | (go_simp; done), ?_⟩
        intro w hS
        clear hS
        go_simp
        try with_reducible rfl
      try simp only [Act.put, List.getElem_toArray, List.getElem_cons_succ, List.getElem_cons_zero, List.setIfInBounds_toArray, List.set_cons_succ, List.set_cons_zero]
      apply takeH (i := 1) 18 rfl (by kernel_rfl) (by kernel_rfl) (by kernel_rfl) (fun _ _ _ h => h) rfl (by first | exact M.out | exact M.out.take 0)
      case' hy =>
        refine Or.inl ⟨by first | rfl | (go_simp; done), ?_⟩
        intro w hS
        clear hS
        go_simp
        try with_reducible rfl
      try simp only [Act.put, List.getElem_toArray, List.getElem_cons_succ, List.getElem_cons_zero, List.setIfInBounds_toArray, List.set_cons_succ, List.set_cons_zero]
      apply takeH (i := 2) 19 rfl (by kernel_rfl) (by kernel_rfl) (by kernel_rfl) (fun _ _ _ h => h) rfl (by first | exact M.out | exact M.out.take 0)
      case' hy =>
        refine Or.inl ⟨by first | rfl | (go_simp; done), ?_⟩
        intro w hS
        clear hS
        go_simp
        try with_reducible rfl
      try simp only [Act.put, List.getElem_toArray, List.getElem_cons_succ, List.getElem_cons_zero, List.setIfInBounds_toArray, List.set_cons_succ, List.set_cons_zero]
      apply takeH (i := 3) 20 rfl (by kernel_rfl) (by kernel_rfl) (by kernel_rfl) (fun _ _ _ h => h) rfl (by first | exact M.out | exact M.out.take 0)
      case' hy => exact yieldsIf_load_mid (by first | rfl | (go_simp; done)) _ _ rfl _ _ rfl _ _ (fun w' hS => range_at Visit.vl (sl_rangeVisit (hS.sl HX.out) hlt) HXK.out) Try.underlying51 rfl sz51
      try simp only [Act.put, List.getElem_toArray, List.getElem_cons_succ, List.getElem_cons_zero, List.setIfInBounds_toArray, List.set_cons_succ, List.set_cons_zero]
      apply takeH (i := 4) 21 rfl (by kernel_rfl) (by kernel_rfl) (by kernel_rfl) (fun _ _ _ h => h) rfl (by first | exact M.out | exact M.out.take 0)
      case' hy =>
        refine Or.inl ⟨by first | rfl | (go_simp; done), ?_⟩
        intro w hS
        clear hS
        go_simp
        try with_reducible rfl
      try simp only [Act.put, List.getElem_toArray, List.getElem_cons_succ, List.getElem_cons_zero, List.setIfInBounds_toArray, List.set_cons_succ, List.set_cons_zero]
      apply takeH (i := 5) 22 rfl (by kernel_rfl) (by kernel_rfl) (by kernel_rfl) (fun _ _ _ h => h) rfl (by first | exact M.out | exact M.out.take 0)
      case' hy =>
        refine Or.inl ⟨by first | rfl | (go_simp; done), ?_⟩
        intro w hS
        clear hS
        go_simp
        try with_reducible rfl
      try simp only [Act.put, List.getElem_toArray, List.getElem_cons_succ, List.getElem_cons_zero, List.setIfInBounds_toArray, List.set_cons_succ, List.set_cons_zero]
      apply takeH (i := 6) 23 rfl (by kernel_rfl) (by kernel_rfl) (by kernel_rfl) (fun _ _ _ h => h) rfl (by first | exact M.out | exact M.out.take 0)
      case' hy =>
        refine Or.inl ⟨by first | rfl | (go_simp; done), ?_⟩
        intro w hS
        clear hS
        go_simp
        try with_reducible rfl
      try simp only [Act.put, List.getElem_toArray, List.getElem_cons_succ, List.getElem_cons_zero, List.setIfInBounds_toArray, List.set_cons_succ, List.set_cons_zero]
      apply takeH (i := 7) 24 rfl (by kernel_rfl) (by kernel_rfl) (by kernel_rfl) (fun _ _ _ h => h) rfl (by first | exact M.out | exact M.out.take 0)
      case' hy => exact yieldsIf_load_mid (by first | rfl | (go_simp; done)) _ _ rfl _ _ rfl _ _ (fun w' hS => range_at Visit.vl (sl_rangeVisit (hS.sl HY.out) hlt) HXK.out) Try.underlying51 rfl sz51
      try simp only [Act.put, List.getElem_toArray, List.getElem_cons_succ, List.getElem_cons_zero, List.setIfInBounds_toArray, List.set_cons_succ, List.set_cons_zero]
      apply takeH (i := 8) 25 rfl (by kernel_rfl) (by kernel_rfl) (by kernel_rfl) (fun _ _ _ h => h) rfl (by first | exact M.out | exact M.out.take 0)
      case' hy =>
        refine Or.inl ⟨by first | rfl | (go_simp; done), ?_⟩
        intro w hS
        clear hS
        go_simp
        try with_reducible rfl
      try simp only [Act.put, List.getElem_toArray, List.getElem_cons_succ, List.getElem_cons_zero, List.setIfInBounds_toArray, List.set_cons_succ, List.set_cons_zero]
      refine wpAnyH_done (by kernel_rfl) ?_ _
      go_wp2
      exact ⟨⟨k + 1, by omega, by go_num, M.out⟩, by simp [intOf]; omega⟩
    · obtain rfl : k = xs.length := by omega
      go_wp2
      go_ret
      exact ⟨rfl, M.out⟩
end Go.Proofs.Ytlonbgomdabmmaa
namespace Go.Proofs.Ytlonbgomdabmmaa
set_option linter.unusedSimpArgs false
set_option linter.unusedVariables false
open Go.RowKit
attribute [local go_sem] cell?_mk frozen?_mk
--ONES exact Flock.one _

theorem sl_rangeFlock {w : World} {sz b off n k : Nat} {cs : List Value} (h : Sl w sz (some ⟨b, off, none⟩) n cs) (hn : k < n) : w.rangeAt b off cs := by
  obtain ⟨b1, o1, hB, hr⟩ := h.2 (by omega)
  cases hB
  exact hr
theorem neqFlock (x : Flock) (w : World) : (binOp .neq 48 (.agg x.vals.toArray) (.agg x.vals.toArray)).run Try.prog w = .ok (.bool false) w := by
  have ui16 := Try.underlying26
  have ai16 := Try.isAgg26
  have zi16 := Try.sizeOf26
  have ui8 := Try.underlying24
  have ai8 := Try.isAgg24
  have zi8 := Try.sizeOf24
  have u4 := Try.underlying48
  unfold Flock.vals
  obtain ⟨e0, e1, e2, e3, e4, e5⟩ := x
  go_simp
set_option maxRecDepth 100000 in
set_option maxHeartbeats 2000000 in
theorem FlockSame_any (A B : Option Addr) (c d : Nat) (xs : List Flock) (w : World) (hl : xs.length ≤ 1048576) (hx : Sl w 6 A xs.length (flat Flock.vals xs)) (hy : Sl w 6 B xs.length (flat Flock.vals xs)) :
    Calls Try.prog 27 #[.slice A xs.length c, .slice B xs.length d] w fun e w' => e = .returned (.bool true) ∧ Mem w w' [] := by
  have M := Lib.hid (Mem.start w)
  have HX := Lib.hid hx
  have HY := Lib.hid hy
  clear hx hy
  go_enter Try.func27, Try.ntmps27
  go_wp2
  go_loopw [5] (fun v wr => ∃ k : Nat, k ≤ xs.length ∧ v = .int .i64 k ∧ Mem w wr [])
    (fun v _ => xs.length - (intOf v).toNat)
  case atStart => exact ⟨0, by omega, rfl, M.out⟩
  case round =>
    clear M
    obtain ⟨k, hk, rfl, m⟩ := hrel
    have M := Lib.hid m
    clear m
    by_cases hlt : k < xs.length
    · obtain ⟨b, off, rfl, _⟩ := HX.out.2 (by omega)
      obtain ⟨b2, off2, rfl, _⟩ := HY.out.2 (by omega)
      have HXK := Lib.hid (show xs[k]? = some xs[k] from List.getElem?_eq_getElem hlt)
      have i0 : (0 : Int) ≤ (k : Int) := by omega
      have i1 : (k : Int) < (xs.length : Int) := by omega
      obtain ⟨x, hx⟩ : ∃ x, x = xs[k] := ⟨_, rfl⟩
      rw [← hx] at HXK
      clear hx
      have heq := neqFlock x
      go_wp2
      refine region_anyH (fun w' => Mem w w' []) (by kernel_rfl) ?_
      have m := M.out.drew
      clear M
      have M := Lib.hid m
      clear m
      apply takeH (i := 0) 17 rfl (by kernel_rfl) (by kernel_rfl) (by kernel_rfl) (fun _ _ _ h => h) rfl (by first | exact M.out | exact M.out.take 0)
      case' hy =>
        refine Or.inl ⟨by first | rfl | (go_simp; done), ?_⟩
        intro w hS
        clear hS
        go_simp
        try with_reducible rfl
      try simp only [Act.put, List.getElem_toArray, List.getElem_cons_succ, List.getElem_cons_zero, List.setIfInBounds_toArray, List.set_cons_succ, List.set_cons_zero]
      apply takeH (i := 1) 18 rfl (by kernel_rfl) (by kernel_rfl) (by kernel_rfl) (fun _ _ _ h => h) rfl (by first | exact M.out | exact M.out.take 0)
      case' hy =>
        refine Or.inl ⟨by first | rfl | (go_simp; done), ?_⟩
        intro w hS
        clear hS
        go_simp
        try with_reducible rfl
      try simp only [Act.put, List.getElem_toArray, List.getElem_cons_succ, List.getElem_cons_zero, List.setIfInBounds_toArray, List.set_cons_succ, List.set_cons_zero]
      apply takeH (i := 2) 19 rfl (by kernel_rfl) (by kernel_rfl) (by kernel_rfl) (fun _ _ _ h => h) rfl (by first | exact M.out | exact M.out.take 0)
      case' hy =>
        refine Or.inl ⟨by first | rfl | (go_simp; done), ?_⟩
        intro w hS
        clear hS
        go_simp
        try with_reducible rfl
      try simp only [Act.put, List.getElem_toArray, List.getElem_cons_succ, List.getElem_cons_zero, List.setIfInBounds_toArray, List.set_cons_succ, List.set_cons_zero]
      apply takeH (i := 3) 20 rfl (by kernel_rfl) (by kernel_rfl) (by kernel_rfl) (fun _ _ _ h => h) rfl (by first | exact M.out | exact M.out.take 0)
      case' hy => exact yieldsIf_load_mid (by first | rfl | (go_simp; done)) _ _ rfl _ _ rfl _ _ (fun w' hS => range_at Flock.vl (sl_rangeFlock (hS.sl HX.out) hlt) HXK.out) Try.underlying48 rfl sz48
      try simp only [Act.put, List.getElem_toArray, List.getElem_cons_succ, List.getElem_cons_zero, List.setIfInBounds_toArray, List.set_cons_succ, List.set_cons_zero]
      apply takeH (i := 4) 21 rfl (by kernel_rfl) (by kernel_rfl) (by kernel_rfl) (fun _ _ _ h => h) rfl (by first | exact M.out | exact M.out.take 0)
      case' hy =>
        refine Or.inl ⟨by first | rfl | (go_simp; done), ?_⟩
        intro w hS
        clear hS
        go_simp
        try with_reducible rfl
      try simp only [Act.put, List.getElem_toArray, List.getElem_cons_succ, List.getElem_cons_zero, List.setIfInBounds_toArray, List.set_cons_succ, List.set_cons_zero]
      apply takeH (i := 5) 22 rfl (by kernel_rfl) (by kernel_rfl) (by kernel_rfl) (fun _ _ _ h => h) rfl (by first | exact M.out | exact M.out.take 0)
      case' hy =>
        refine Or.inl ⟨by first | rfl | (go_simp; done), ?_⟩
        intro w hS
        clear hS
        go_simp
        try with_reducible rfl
      try simp only [Act.put, List.getElem_toArray, List.getElem_cons_succ, List.getElem_cons_zero, List.setIfInBounds_toArray, List.set_cons_succ, List.set_cons_zero]
      apply takeH (i := 6) 23 rfl (by kernel_rfl) (by kernel_rfl) (by kernel_rfl) (fun _ _ _ h => h) rfl (by first | exact M.out | exact M.out.take 0)
      case' hy =>
        refine Or.inl ⟨by first | rfl | (go_simp; done), ?_⟩
        intro w hS
        clear hS
        go_simp
        try with_reducible rfl
      try simp only [Act.put, List.getElem_toArray, List.getElem_cons_succ, List.getElem_cons_zero, List.setIfInBounds_toArray, List.set_cons_succ, List.set_cons_zero]
      apply takeH (i := 7) 24 rfl (by kernel_rfl) (by kernel_rfl) (by kernel_rfl) (fun _ _ _ h => h) rfl (by first | exact M.out | exact M.out.take 0)
      case' hy => exact yieldsIf_load_mid (by first | rfl | (go_simp; done)) _ _ rfl _ _ rfl _ _ (fun w' hS => range_at Flock.vl (sl_rangeFlock (hS.sl HY.out) hlt) HXK.out) Try.underlying48 rfl sz48
      try simp only [Act.put, List.getElem_toArray, List.getElem_cons_succ, List.getElem_cons_zero, List.setIfInBounds_toArray, List.set_cons_succ, List.set_cons_zero]
      apply takeH (i := 8) 25 rfl (by kernel_rfl) (by kernel_rfl) (by kernel_rfl) (fun _ _ _ h => h) rfl (by first | exact M.out | exact M.out.take 0)
      case' hy =>
        refine Or.inl ⟨by first | rfl | (go_simp; done), ?_⟩
        intro w hS
        clear hS
        go_simp
        try with_reducible rfl
      try simp only [Act.put, List.getElem_toArray, List.getElem_cons_succ, List.getElem_cons_zero, List.setIfInBounds_toArray, List.set_cons_succ, List.set_cons_zero]
      refine wpAnyH_done (by kernel_rfl) ?_ _
      go_wp2
      exact ⟨⟨k + 1, by omega, by go_num, M.out⟩, by simp [intOf]; omega⟩
    · obtain rfl : k = xs.length := by omega
      go_wp2
      go_ret
      exact ⟨rfl, M.out⟩
end Go.Proofs.Ytlonbgomdabmmaa
namespace Go.Proofs.Ytlonbgomdabmmaa
set_option linter.unusedSimpArgs false
set_option linter.unusedVariables false
open Go.RowKit
attribute [local go_sem] cell?_mk frozen?_mk

end Go.Proofs.Ytlonbgomdabmmaa
