/- Texts of a proof, laid together: PlansP, Rets, Sets. -/
import Derived.Test.YtdnofkngljjbmaaZP12
import Derived.Test.YtdnofkngljjbmaaZP09
import Derived.Test.YtdnofkngljjbmaaZP03
import Derived.Test.YtdnofkngljjbmaaZP08
import Derived.Laws.Bits64b
namespace Go.Proofs.Ytdnofkngljjbmaa
set_option linter.unusedSimpArgs false
set_option linter.unusedVariables false
open Go.RowKit

theorem sumN_sumTo (f : Nat → Int) : ∀ n, sumN n f = sumTo f n
  | 0 => rfl
  | n + 1 => by rw [sumN, sumTo, sumN_sumTo f n]
theorem sumN_mono {f g : Nat → Int} : ∀ n, (∀ i, i < n → f i ≤ g i) → sumN n f ≤ sumN n g
  | 0, _ => Int.le_refl _
  | n + 1, h => by have := sumN_mono n fun i hi => h i (by omega); have := h n (by omega); rw [sumN, sumN]; omega
theorem sumTo_mono {f g : Nat → Int} (n : Nat) (h : ∀ i, i < n → f i ≤ g i) : sumTo f n ≤ sumTo g n := by
  rw [← sumN_sumTo, ← sumN_sumTo]; exact sumN_mono n h
theorem sumTo_sub (f g : Nat → Int) : ∀ n, sumTo (fun i => f i - g i) n = sumTo f n - sumTo g n
  | 0 => rfl
  | n + 1 => by rw [sumTo, sumTo, sumTo, sumTo_sub f g n]; omega
theorem cntN_count (p : List Int) (d : Int) : ∀ k, k ≤ p.length → cntN k (fun i => decide (gi p i = d)) = (p.take k).count d
  | 0, _ => by simp [cntN]
  | k + 1, h => by
    have hk : k < p.length := by omega
    have hg : p[k] = gi p k := by unfold gi; rw [List.getD_eq_getElem?_getD, List.getElem?_eq_getElem hk]; rfl
    rw [cntN, cntN_count p d k (by omega), List.take_succ_eq_append_getElem hk, List.count_append, List.count_singleton, hg]
    by_cases he : gi p k = d
    · rw [if_pos (decide_eq_true he), if_pos (by simpa using he)]
    · rw [if_neg (by simpa using he), if_neg (by simpa using he)]
/-- A plan that is fit, as an assignment. -/
theorem plan_asg {p : List Int} {D : Nat} {h : Int} (hd : ∀ d ∈ p, d = -1 ∨ (0 ≤ d ∧ d < D)) (hc : ∀ d : Nat, d < D → cntOf p d ≤ h) : Asg p.length 0 D (capOf h []) (gi p) :=
  ⟨fun i hi => by
    have := hd (gi p i) (gi_mem hi)
    omega, fun d _ h2 => by
    have := hc d h2
    rw [cntN_count p d p.length (Nat.le_refl _), List.take_length]
    unfold cntOf at this
    unfold capOf
    simp
    omega⟩
theorem plan_val {xs : List Plot} {p : List Int} (hl : p.length = xs.length) : pval xs.length (wtOf xs 0) (gi p) = sumTo (wOf xs p) xs.length := by
  unfold pval
  rw [sumN_sumTo]
  refine sumTo_congr _ fun i hi => ?_
  have hg : p[i]? = some (gi p i) := getElem?_gi (by omega)
  by_cases h0 : 0 ≤ gi p i
  · rw [if_pos h0, wOf_pos hi hg h0]
    unfold wtOf
    rw [Nat.zero_add, worthAt_at hi, show (((gi p i).toNat : Nat) : Int) = gi p i by omega]
  · rw [if_neg h0, wOf_neg hg h0]
section
variable {xs : List Plot} (hx : ∀ x ∈ xs, x.fine = true) (h6 : xs.length ≤ 6)
theorem caps0 {h : Int} (h0 : 0 ≤ h) (e : Nat) : 0 ≤ capOf h [] e := by unfold capOf; simp; exact h0
include hx h6 in
theorem best0 {h : Int} (h0 : 0 ≤ h) (D : Nat) : Best xs.length D (capOf h []) (wtOf xs 0) 0 (mostOf xs h D []) := by
  have := best_of hx (h := h) (D := D) (p := []) (m := xs.length) (by simp) h6 (fun e _ => caps0 h0 e)
  exact this
include hx h6 in
/-- No fit plan is worth more than the best one. -/
theorem plan_le {p : List Int} {D : Nat} {h : Int} (h0 : 0 ≤ h) (hl : p.length = xs.length) (hd : ∀ d ∈ p, d = -1 ∨ (0 ≤ d ∧ d < D)) (hc : ∀ d : Nat, d < D → cntOf p d ≤ h) : sumTo (wOf xs p) xs.length ≤ mostOf xs h D [] := by
  have a := plan_asg hd hc
  rw [hl] at a
  have := (best0 hx h6 h0 D).most _ a
  rw [plan_val hl] at this
  omega
include hx h6 in
/-- With more hands the best plan is worth no less. -/
theorem most_mono {D : Nat} {h h' : Int} (h0 : 0 ≤ h) (hh : h ≤ h') : mostOf xs h D [] ≤ mostOf xs h' D [] := by
  obtain ⟨c, c1, c2⟩ := (best0 hx h6 h0 D).is
  rw [← c2]
  refine (best0 hx h6 (by omega : 0 ≤ h') D).most c ⟨c1.day, fun d a b => ?_⟩
  have := c1.cap d a b
  unfold capOf at this ⊢
  simp at this ⊢
  omega
/-- The greatest worth of a plot among the first days. -/
def topTo (x : Plot) : Nat → Int
  | 0 => x.worth 0
  | d + 1 => max (topTo x d) (x.worth d)
theorem topTo_le (x : Plot) {d : Nat} : ∀ D, d < D → x.worth d ≤ topTo x D
  | D + 1, h => by
    rw [topTo]
    rcases Nat.lt_or_ge d D with h1 | h1
    · have := topTo_le x D h1; omega
    · have : d = D := by omega
      subst this
      omega
theorem topTo_b {x : Plot} (h : x.fine = true) : ∀ D, 0 ≤ topTo x D ∧ topTo x D ≤ 1000
  | 0 => by have := Plot.worth_b h 0; unfold topTo; omega
  | D + 1 => by have := topTo_b h D; have := Plot.worth_b h D; rw [topTo]; omega
def topAt (xs : List Plot) (D i : Nat) : Int := match xs[i]? with | some x => topTo x D | none => 0
theorem topAt_at {xs : List Plot} {i : Nat} (h : i < xs.length) (D : Nat) : topAt xs D i = topTo xs[i] D := by
  unfold topAt
  rw [List.getElem?_eq_getElem h]
def boundOf (xs : List Plot) (D : Nat) : Int := sumTo (topAt xs D) xs.length
include hx h6 in
theorem most_bound {D : Nat} {h : Int} (h0 : 0 ≤ h) : mostOf xs h D [] ≤ boundOf xs D := by
  obtain ⟨c, c1, c2⟩ := (best0 hx h6 h0 D).is
  rw [← c2]
  unfold boundOf pval
  rw [← sumN_sumTo, Int.zero_add]
  refine sumN_mono _ fun i hi => ?_
  rw [topAt_at hi]
  split
  · rename_i h1
    rcases c1.day i hi with h2 | h2
    · omega
    · unfold wtOf
      rw [Nat.zero_add, worthAt_at hi]
      exact topTo_le _ D (by omega)
  · exact (topTo_b (hx _ (List.getElem_mem hi)) D).1
end
/-! ### The greedy plan is fit -/
theorem count_set_le (p : List Int) (i : Nat) (d e : Int) : (p.set i d).count e ≤ p.count e + if d = e then 1 else 0 := by
  induction p generalizing i with
  | nil => simp
  | cons x p ih =>
    cases i with
    | zero =>
      rw [List.set_cons_zero, List.count_cons, List.count_cons]
      by_cases h1 : d = e
      · rw [if_pos (by simpa using h1), if_pos h1]; omega
      · rw [if_neg (by simpa using h1), if_neg h1]; omega
    | succ i =>
      rw [List.set_cons_succ, List.count_cons, List.count_cons]
      have := ih i
      omega
theorem turnOf_cnt (xs : List Plot) (p : List Int) (d : Int) (e : Nat) : cntOf (turnOf xs p d) e ≤ cntOf p e + if d = e then 1 else 0 := by
  unfold turnOf cntOf
  split
  · have := count_set_le p (bestTo xs p d xs.length).1.toNat d e
    split
    · rename_i h; rw [if_pos h] at this; omega
    · rename_i h; rw [if_neg h] at this; omega
  · split <;> omega
theorem dayG_cnt (xs : List Plot) (d : Int) (p : List Int) (e : Nat) : ∀ j : Nat, cntOf (dayG xs d p j) e ≤ cntOf p e + if d = e then (j : Int) else 0
  | 0 => by rw [dayG]; split <;> omega
  | j + 1 => by
    have h1 := dayG_cnt xs d p e j
    have h2 := turnOf_cnt xs (dayG xs d p j) d e
    rw [dayG]
    split
    · rename_i h; rw [if_pos h] at h1 h2; omega
    · rename_i h; rw [if_neg h] at h1 h2; omega
theorem turnOf_mem {xs : List Plot} {p : List Int} {d x : Int} (h : x ∈ turnOf xs p d) : x ∈ p ∨ x = d := by
  unfold turnOf at h
  split at h
  · exact List.mem_or_eq_of_mem_set h
  · exact .inl h
theorem dayG_mem {xs : List Plot} {d x : Int} {p : List Int} : ∀ j, x ∈ dayG xs d p j → x ∈ p ∨ x = d
  | 0, h => .inl h
  | j + 1, h => by
    rcases turnOf_mem h with h1 | h1
    · exact dayG_mem j h1
    · exact .inr h1
theorem greedyTo_days (xs : List Plot) (h : Nat) : ∀ k : Nat, ∀ x ∈ greedyTo xs h k, x = -1 ∨ (0 ≤ x ∧ x < k)
  | 0, x, hx => by rw [greedyTo, List.mem_replicate] at hx; exact .inl hx.2
  | k + 1, x, hx => by
    rcases dayG_mem h hx with h1 | h1
    · rcases greedyTo_days xs h k x h1 with h2 | h2
      · exact .inl h2
      · exact .inr (by omega)
    · exact .inr (by omega)
theorem greedyTo_cnt (xs : List Plot) (h : Nat) : ∀ k e : Nat, cntOf (greedyTo xs h k) e ≤ if e < k then (h : Int) else 0
  | 0, e => by
    rw [if_neg (by omega)]
    unfold cntOf
    rw [List.count_eq_zero.2 fun hm => by rw [greedyTo, List.mem_replicate] at hm; omega]
    exact Int.le_refl _
  | k + 1, e => by
    have h1 := greedyTo_cnt xs h k e
    have h2 := dayG_cnt xs k (greedyTo xs h k) e h
    rw [greedyTo]
    by_cases he : (k : Int) = e
    · rw [if_pos he] at h2
      rw [if_neg (by omega)] at h1
      rw [if_pos (by omega)]
      omega
    · rw [if_neg he] at h2
      by_cases hk : e < k
      · rw [if_pos hk] at h1
        rw [if_pos (by omega)]
        omega
      · rw [if_neg hk] at h1
        rw [if_neg (by omega)]
        omega
/-! ### What is lost, and what is not -/
theorem lost_sum {xs : List Plot} (p : List Int) : sumTo (fun i => sdOf xs i - wOf xs p i) xs.length + sumTo (wOf xs p) xs.length = sumTo (sdOf xs) xs.length := by
  rw [sumTo_sub]; omega
/-! ### The best day of a plot -/
def bestD (x : Plot) : Nat → Nat × Int
  | 0 => (0, x.worth 0)
  | d + 1 => if (bestD x d).2 < x.worth d then (d, x.worth d) else bestD x d
theorem bestD_top (x : Plot) : ∀ D, (bestD x D).2 = topTo x D
  | 0 => rfl
  | D + 1 => by
    have := bestD_top x D
    rw [bestD, topTo]
    split
    · show x.worth D = _; omega
    · omega
theorem bestD_worth (x : Plot) : ∀ D, (bestD x D).2 = x.worth (bestD x D).1
  | 0 => rfl
  | D + 1 => by
    rw [bestD]
    split
    · rfl
    · exact bestD_worth x D
theorem bestD_b (x : Plot) : ∀ D, (bestD x D).1 < D + 1
  | 0 => Nat.lt_succ_self _
  | D + 1 => by
    have := bestD_b x D
    rw [bestD]
    split
    · show D < _; omega
    · omega
theorem bestD_1 (x : Plot) : bestD x 1 = (0, x.worth 0) := by
  rw [bestD, if_neg (by show ¬ (x.worth 0 < x.worth ((0 : Nat) : Int)); exact Int.lt_irrefl _)]; rfl
/-! ### Plans that are valid -/
theorem planOk_of {xs : List Plot} (hp : plotsOk xs = true) {h : Int} (h1 : 1 ≤ h) (h3 : h ≤ 3) {D : Nat} (hD : D ≤ 20) {p : List Int} (hl : p.length = xs.length) (hd : ∀ d ∈ p, d = -1 ∨ (0 ≤ d ∧ d < D)) (hc : ∀ d : Nat, d < D → cntOf p d ≤ h) : planOk xs h p = true := by
  unfold planOk
  rw [hp, inB_iff.2 ⟨h1, h3⟩, decide_eq_true hl, planIn_of fun x hx => inB_iff.2 (by have := hd x hx; omega), planFit_of fun d hd' => ?_]
  · rfl
  · rcases Nat.lt_or_ge d D with h9 | h9
    · exact hc d h9
    · unfold cntOf
      rw [List.count_eq_zero.2 fun hm => by have := hd _ hm; omega]
      omega
section
variable {xs : List Plot} (hp : plotsOk xs = true) {h : Int} (h1 : 1 ≤ h) (h3 : h ≤ 3) {D : Nat} (hD : D ≤ 20)
include hp h1 hD in
theorem bp_fit : (∀ d ∈ bpTo xs h D xs.length, d = -1 ∨ (0 ≤ d ∧ d < D)) ∧ ∀ d : Nat, d < D → cntOf (bpTo xs h D xs.length) d ≤ h := by
  obtain ⟨hx, h6⟩ := plotsOk_iff.1 hp
  have H := bp_ok hx h6 (by omega : 0 ≤ h) hD xs.length (Nat.le_refl _)
  refine ⟨fun d hd => by have := H.days d hd; omega, fun d hd => ?_⟩
  have := H.caps d hd
  unfold capOf at this
  unfold cntOf
  omega
include hp h1 h3 hD in
theorem bp_planOk : planOk xs h (bpTo xs h D xs.length) = true := by
  have := bp_fit hp h1 hD
  exact planOk_of hp h1 h3 hD (bpTo_len _ _ _ _) this.1 this.2
include hp h1 hD in
/-- What the best plan is worth, and what is lost by it. -/
theorem bp_worth : sumTo (wOf xs (bpTo xs h D xs.length)) xs.length = mostOf xs h D [] := by
  obtain ⟨hx, h6⟩ := plotsOk_iff.1 hp
  have := bp_sum hx h6 (by omega : 0 ≤ h) hD
  unfold baseOf at this
  rw [bpTo_len, List.take_length] at this
  exact this.symm
end
section
variable {xs : List Plot} (hp : plotsOk xs = true) {h : Nat} (h1 : 1 ≤ h) (h3 : h ≤ 3) {D : Nat} (hD : D ≤ 20)
include hp h1 h3 hD in
theorem greedy_planOk : planOk xs h (greedyTo xs h D) = true :=
  planOk_of hp (by omega) (by omega) hD (greedyTo_in xs h D hD).1 (greedyTo_days xs h D) fun d hd => by have := greedyTo_cnt xs h D d; rwa [if_pos hd] at this
include hp hD in
theorem greedy_le : sumTo (wOf xs (greedyTo xs h D)) xs.length ≤ mostOf xs h D [] := by
  obtain ⟨hx, h6⟩ := plotsOk_iff.1 hp
  exact plan_le hx h6 (by omega) (greedyTo_in xs h D hD).1 (greedyTo_days xs h D) fun d hd => by have := greedyTo_cnt xs h D d; rwa [if_pos hd] at this
end
end Go.Proofs.Ytdnofkngljjbmaa
namespace Go.Proofs.Ytdnofkngljjbmaa
set_option linter.unusedSimpArgs false
set_option linter.unusedVariables false
open Go.RowKit

/-- A value that points to a variable of a type, and what lies there. -/
def Var (P : Program) (w : World) (ty : TypeId) (v : Value) (cs : Array Value) : Prop :=
  ∃ g, v = .pointer (some ⟨g, 0, none⟩) ∧ (loadVar ty ⟨g, 0, none⟩).run P w = .ok (.agg cs) w
theorem Blk.var {P : Program} {w : World} {g : Nat} {t : TypeId} {cs : Array Value} (hb : Blk w g t cs) {ty : TypeId} {d : TypeDesc} (hu : P.underlying ty = some d) (hd : (match d with | .struct _ | .array _ _ => true | _ => false) = true)
    (hi : (P.info? ty).map (·.size) = some cs.size) : Var P w ty (.pointer (some ⟨g, 0, none⟩)) cs := ⟨g, rfl, run_loadVar_row w g t ty cs (0, 0) d hb hu hd hi⟩
section
variable {P : Program} {fn : Func} {R : Ending → World → Prop} {tmps : Array Value} {w : World} {p q u x : Tmp} {ty ty' : TypeId} {cs cs' : Array Value}
theorem ret_ct (hr : fn.results = #[.cell p ty, .tmp u]) (hp : Var P w ty (tmps.getD p undef) cs) (h : R (.returned (.tuple #[.agg cs, tmps.getD u undef])) w) : bodyPost P fn R .ret { tmps := tmps, defers := [] } w := by
  obtain ⟨g, h1, h2⟩ := hp
  have h1' : tmps[p]?.getD undef = .pointer (some ⟨g, 0, none⟩) := by simpa using h1
  refine bodyPost_ret (v := .tuple #[.agg cs, tmps.getD u undef]) ?_ rfl h
  simp [results, hr, h1', asAddr, h2]
theorem ret_ctt (hr : fn.results = #[.cell p ty, .tmp u, .tmp x]) (hp : Var P w ty (tmps.getD p undef) cs) (h : R (.returned (.tuple #[.agg cs, tmps.getD u undef, tmps.getD x undef])) w) : bodyPost P fn R .ret { tmps := tmps, defers := [] } w := by
  obtain ⟨g, h1, h2⟩ := hp
  have h1' : tmps[p]?.getD undef = .pointer (some ⟨g, 0, none⟩) := by simpa using h1
  refine bodyPost_ret (v := .tuple #[.agg cs, tmps.getD u undef, tmps.getD x undef]) ?_ rfl h
  simp [results, hr, h1', asAddr, h2]
theorem ret_cc (hr : fn.results = #[.cell p ty, .cell q ty']) (hp : Var P w ty (tmps.getD p undef) cs) (hq : Var P w ty' (tmps.getD q undef) cs')
    (h : R (.returned (.tuple #[.agg cs, .agg cs'])) w) : bodyPost P fn R .ret { tmps := tmps, defers := [] } w := by
  obtain ⟨g, h1, h2⟩ := hp
  obtain ⟨g', h3, h4⟩ := hq
  have h1' : tmps[p]?.getD undef = .pointer (some ⟨g, 0, none⟩) := by simpa using h1
  have h3' : tmps[q]?.getD undef = .pointer (some ⟨g', 0, none⟩) := by simpa using h3
  refine bodyPost_ret (v := .tuple #[.agg cs, .agg cs']) ?_ rfl h
  simp [results, hr, h1', h3', asAddr, h2, h4]
theorem ret_cct (hr : fn.results = #[.cell p ty, .cell q ty', .tmp u]) (hp : Var P w ty (tmps.getD p undef) cs) (hq : Var P w ty' (tmps.getD q undef) cs')
    (h : R (.returned (.tuple #[.agg cs, .agg cs', tmps.getD u undef])) w) : bodyPost P fn R .ret { tmps := tmps, defers := [] } w := by
  obtain ⟨g, h1, h2⟩ := hp
  obtain ⟨g', h3, h4⟩ := hq
  have h1' : tmps[p]?.getD undef = .pointer (some ⟨g, 0, none⟩) := by simpa using h1
  have h3' : tmps[q]?.getD undef = .pointer (some ⟨g', 0, none⟩) := by simpa using h3
  refine bodyPost_ret (v := .tuple #[.agg cs, .agg cs', tmps.getD u undef]) ?_ rfl h
  simp [results, hr, h1', h3', asAddr, h2, h4]
theorem ret_cctt (hr : fn.results = #[.cell p ty, .cell q ty', .tmp u, .tmp x]) (hp : Var P w ty (tmps.getD p undef) cs) (hq : Var P w ty' (tmps.getD q undef) cs')
    (h : R (.returned (.tuple #[.agg cs, .agg cs', tmps.getD u undef, tmps.getD x undef])) w) : bodyPost P fn R .ret { tmps := tmps, defers := [] } w := by
  obtain ⟨g, h1, h2⟩ := hp
  obtain ⟨g', h3, h4⟩ := hq
  have h1' : tmps[p]?.getD undef = .pointer (some ⟨g, 0, none⟩) := by simpa using h1
  have h3' : tmps[q]?.getD undef = .pointer (some ⟨g', 0, none⟩) := by simpa using h3
  refine bodyPost_ret (v := .tuple #[.agg cs, .agg cs', tmps.getD u undef, tmps.getD x undef]) ?_ rfl h
  simp [results, hr, h1', h3', asAddr, h2, h4]
end
end Go.Proofs.Ytdnofkngljjbmaa
namespace Go.Proofs.Ytdnofkngljjbmaa
set_option linter.unusedSimpArgs false
set_option linter.unusedVariables false
open Go.RowKit
attribute [local go_sem] cell?_mk frozen?_mk

structure Cs where
  lo : Nat
  hi : Nat
structure Cs.ok (c : Cs) : Prop where
  l : c.lo < 18446744073709551616
  h : c.hi < 18446744073709551616
def Cs.vals (c : Cs) : List Value := [.int .u64 c.lo, .int .u64 c.hi]
def Cs.cells (c : Cs) : Array Value := c.vals.toArray
theorem Cs.size (c : Cs) : c.cells.size = 2 := rfl
theorem Cs.one (c : Cs) : c.cells.all (·.oneCell') = true := by simp [Cs.cells, Cs.vals, Value.oneCell']
def Cs.z : Cs := ⟨0, 0⟩
theorem Cs.z_ok : Cs.z.ok := ⟨by decide, by decide⟩
def Cs.put (c : Cs) (n : Nat) : Cs := if n < 64 then ⟨c.lo ||| 2 ^ n, c.hi⟩ else ⟨c.lo, c.hi ||| 2 ^ (n - 64)⟩
def Cs.has (c : Cs) (n : Nat) : Bool := if n < 64 then c.lo.testBit n else c.hi.testBit (n - 64)
def setOf (ks : List Nat) : Cs := ks.foldl Cs.put Cs.z
theorem setOf_snoc (ks : List Nat) (k : Nat) : setOf (ks ++ [k]) = (setOf ks).put k := by simp [setOf]
theorem pow64 {n : Nat} (h : n < 64) : 2 ^ n < 18446744073709551616 := Nat.pow_lt_pow_right (a := 2) (by omega) h
theorem or64 {a b : Nat} (ha : a < 18446744073709551616) (hb : b < 18446744073709551616) : a ||| b < 18446744073709551616 := Nat.or_lt_two_pow (n := 64) ha hb
theorem Cs.put_ok {c : Cs} (h : c.ok) {n : Nat} (hn : n < 128) : (c.put n).ok := by
  unfold Cs.put
  split
  · rename_i h1; exact ⟨or64 h.l (pow64 h1), h.h⟩
  · exact ⟨h.l, or64 h.h (pow64 (by omega))⟩
theorem setOf_ok (ks : List Nat) (h : ∀ k ∈ ks, k < 128) : (setOf ks).ok := by
  have key : ∀ (ks : List Nat) (c : Cs), c.ok → (∀ k ∈ ks, k < 128) → (ks.foldl Cs.put c).ok := by
    intro ks
    induction ks with
    | nil => intro c hc _; exact hc
    | cons k r ih => intro c hc h; exact ih _ (Cs.put_ok hc (h k (by simp))) (fun j hj => h j (by simp [hj]))
  exact key ks _ Cs.z_ok h
theorem or_pow (a n : Nat) (ha : a < 18446744073709551616) (hn : n < 64) : bits .or .u64 (a : Int) (IntKind.u64.wrap (2 ^ n)) = ((a ||| 2 ^ n : Nat) : Int) := by
  have hp := pow64 hn
  have : IntKind.u64.wrap ((2 : Int) ^ n) = ((2 ^ n : Nat) : Int) := by
    rw [IntKind.wrap_u64]
    have : ((2 : Int) ^ n) = ((2 ^ n : Nat) : Int) := by simp
    rw [this]
    generalize 2 ^ n = m at hp ⊢
    omega
  rw [this, bits_or_u64_nat a _ ha hp]

set_option maxRecDepth 100000 in
set_option maxHeartbeats 1000000 in
theorem put_any {w0 w : World} {L : List Ent} (i : Nat) (M0 : Mem w0 w L) (b : Nat) {t : TypeId} (c : Cs) (hc : c.ok) (hL : L[i]? = some (.blk b t c.cells)) (n : Nat) (hn : n < 100) :
    Calls Try.prog 126 #[.pointer (some ⟨b, 0, none⟩), .int .i64 n] w fun e w' => e = .returned (.tuple #[]) ∧ Mem w0 w' (L.set i (.blk b t (c.put n).cells)) := by
  have M := Lib.hid M0
  have HL := Lib.hid hL
  have i0 : (0 : Int) ≤ (n : Int) := by omega
  have v0 : IntKind.i64.wrap 0 = 0 := by decide
  have v1 : IntKind.i64.wrap 1 = 1 := by decide
  clear M0 hL
  by_cases h : n < 64
  · have hq : (n : Int) / 64 = 0 := by omega
    have hr : (n : Int).tmod 64 = n := by rw [Int.tmod_eq_emod_of_nonneg i0]; omega
    have c0 := M.out.cell i HL.out (j := 0) (v := .int .u64 c.lo) rfl
    have hb := or_pow c.lo n hc.l h
    have HP := Lib.hid (show c.put n = ⟨c.lo ||| 2 ^ n, c.hi⟩ by rw [Cs.put, if_pos h])
    clear h
    go_enter Try.func126, Try.ntmps126
    go_still_tail 12, (by kernel_rfl)
    have M := Lib.hid M.out.drew
    go_wp2_with (first
      | ((with_reducible refine gate_store (x := .tmp 15) rfl ?_); go_must (refine M.out.ev_put i _ _ _ rfl rfl HL.out rfl (.int .u64 ((c.lo ||| 2 ^ n : Nat) : Int)) rfl (show 0 < c.cells.size by rw [Cs.size]; omega) sz54 rfl rfl ?_); intro wn m; have M := Lib.hid m; clear m)
      )
    refine bodyPost_end (results_none rfl _ _ _) rfl ?_
    exact ⟨rfl, by rw [HP.out]; exact M.out⟩
  · obtain ⟨j, hj⟩ : ∃ j, n = 64 + j := ⟨n - 64, by omega⟩
    have hq : (n : Int) / 64 = 1 := by omega
    have hr : (n : Int).tmod 64 = (j : Int) := by rw [Int.tmod_eq_emod_of_nonneg i0]; omega
    have j0 : (0 : Int) ≤ (j : Int) := by omega
    have hm : min j 64 = j := by omega
    have c0 := M.out.cell i HL.out (j := 1) (v := .int .u64 c.hi) rfl
    have hb := or_pow c.hi j hc.h (by omega)
    have HP := Lib.hid (show c.put n = ⟨c.lo, c.hi ||| 2 ^ j⟩ by rw [Cs.put, if_neg h, hj, Nat.add_sub_cancel_left])
    clear h hj
    go_enter Try.func126, Try.ntmps126
    go_still_tail 12, (by kernel_rfl)
    have M := Lib.hid M.out.drew
    go_wp2_with (first
      | ((with_reducible refine gate_store (x := .tmp 15) rfl ?_); go_must (refine M.out.ev_put i _ _ _ rfl rfl HL.out rfl (.int .u64 ((c.hi ||| 2 ^ j : Nat) : Int)) rfl (show 1 < c.cells.size by rw [Cs.size]; omega) sz54 rfl rfl ?_); intro wn m; have M := Lib.hid m; clear m)
      )
    refine bodyPost_end (results_none rfl _ _ _) rfl ?_
    exact ⟨rfl, by rw [HP.out]; exact M.out⟩
set_option maxRecDepth 100000 in
set_option maxHeartbeats 1000000 in
theorem l01Put_any {w0 w : World} {L : List Ent} (i : Nat) (M0 : Mem w0 w L) (b : Nat) {t : TypeId} (c : Cs) (hc : c.ok) (hL : L[i]? = some (.blk b t c.cells)) (n : Nat) (hn : n < 100) :
    Calls Try.prog 77 #[.pointer (some ⟨b, 0, none⟩), .int .i64 n] w fun e w' => e = .returned (.tuple #[]) ∧ Mem w0 w' (L.set i (.blk b t (c.put n).cells)) := by
  have M := Lib.hid M0
  have HL := Lib.hid hL
  have i0 : (0 : Int) ≤ (n : Int) := by omega
  have v0 : IntKind.i64.wrap 0 = 0 := by decide
  have v1 : IntKind.i64.wrap 1 = 1 := by decide
  clear M0 hL
  by_cases h : n < 64
  · have hq : (n : Int) / 64 = 0 := by omega
    have hr : (n : Int).tmod 64 = n := by rw [Int.tmod_eq_emod_of_nonneg i0]; omega
    have hu : IntKind.u64.wrap (n : Int) = n := IntWalk.u64_in _ (by omega)
    have hm : min n 64 = n := by omega
    have c0 := M.out.cell i HL.out (j := 0) (v := .int .u64 c.lo) rfl
    have hb := or_pow c.lo n hc.l h
    have HP := Lib.hid (show c.put n = ⟨c.lo ||| 2 ^ n, c.hi⟩ by rw [Cs.put, if_pos h])
    clear h
    go_enter Try.func77, Try.ntmps77
    go_still_tail 13, (by kernel_rfl)
    have M := Lib.hid M.out.drew
    go_wp2_with (first
      | ((with_reducible refine gate_store (x := .tmp 16) rfl ?_); go_must (refine M.out.ev_put i _ _ _ rfl rfl HL.out rfl (.int .u64 ((c.lo ||| 2 ^ n : Nat) : Int)) rfl (show 0 < c.cells.size by rw [Cs.size]; omega) sz54 rfl rfl ?_); intro wn m; have M := Lib.hid m; clear m)
      )
    refine bodyPost_end (results_none rfl _ _ _) rfl ?_
    exact ⟨rfl, by rw [HP.out]; exact M.out⟩
  · obtain ⟨j, hj⟩ : ∃ j, n = 64 + j := ⟨n - 64, by omega⟩
    have hq : (n : Int) / 64 = 1 := by omega
    have hr : (n : Int).tmod 64 = (j : Int) := by rw [Int.tmod_eq_emod_of_nonneg i0]; omega
    have j0 : (0 : Int) ≤ (j : Int) := by omega
    have hm : min j 64 = j := by omega
    have hu : IntKind.u64.wrap (j : Int) = j := IntWalk.u64_in _ (by omega)
    have c0 := M.out.cell i HL.out (j := 1) (v := .int .u64 c.hi) rfl
    have hb := or_pow c.hi j hc.h (by omega)
    have HP := Lib.hid (show c.put n = ⟨c.lo, c.hi ||| 2 ^ j⟩ by rw [Cs.put, if_neg h, hj, Nat.add_sub_cancel_left])
    clear h hj
    go_enter Try.func77, Try.ntmps77
    go_still_tail 13, (by kernel_rfl)
    have M := Lib.hid M.out.drew
    go_wp2_with (first
      | ((with_reducible refine gate_store (x := .tmp 16) rfl ?_); go_must (refine M.out.ev_put i _ _ _ rfl rfl HL.out rfl (.int .u64 ((c.hi ||| 2 ^ j : Nat) : Int)) rfl (show 1 < c.cells.size by rw [Cs.size]; omega) sz54 rfl rfl ?_); intro wn m; have M := Lib.hid m; clear m)
      )
    refine bodyPost_end (results_none rfl _ _ _) rfl ?_
    exact ⟨rfl, by rw [HP.out]; exact M.out⟩
end Go.Proofs.Ytdnofkngljjbmaa
