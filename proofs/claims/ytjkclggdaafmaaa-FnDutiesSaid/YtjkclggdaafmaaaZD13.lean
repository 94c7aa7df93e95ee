/- Texts of a proof, laid together: DutyP, SeekP, Gen2, GreedyN, Oth, LookP, GoP. -/
import Derived.Test.YtjkclggdaafmaaaZD12
import Derived.Test.YtjkclggdaafmaaaZD02
import Derived.Test.YtjkclggdaafmaaaZD03
import Derived.Test.YtjkclggdaafmaaaZD01
import Derived.Maps.OwnOps
import Derived.Maps.Views
namespace Go.Proofs.Ytjkclggdaafmaaa
set_option linter.unusedSimpArgs false
set_option linter.unusedVariables false
open Go.RowKit

theorem Sl.at64 {w : World} {b off : Nat} {ks : List Nat} (h : Sl w 1 (some ⟨b, off, none⟩) ks.length (flat one64 ks)) {i j : Nat} (hi : ks[i]? = some j) : w.cell? ⟨b, off + i, none⟩ = some (.int .i64 j) := by
  have hlt := (List.getElem?_eq_some_iff.1 hi).1
  have R := range_at one64_len (h.range (by omega)) hi
  simpa [nat64] using R 0 _ rfl
theorem Sl.atI {w : World} {b off : Nat} {ks : List Int} (h : Sl w 1 (some ⟨b, off, none⟩) ks.length (flat oneI ks)) {i : Nat} {j : Int} (hi : ks[i]? = some j) : w.cell? ⟨b, off + i, none⟩ = some (.int .i64 j) := by
  have hlt := (List.getElem?_eq_some_iff.1 hi).1
  have R := range_at oneI_len (h.range (by omega)) hi
  simpa using R 0 _ rfl
theorem cost1_any (p : Prices) (hg : p.good = true) (g : Nat) {t : TypeId} (x : Net) (hp : x.plain = true) (w : World) (hb : Blk w g t x.vals.toArray) :
    Calls Try.prog 47 #[.agg p.vals.toArray, .slice (some ⟨g, 0, none⟩) 1 1] w fun e w' => e = .returned (.int .i64 (netCost p x)) ∧ Mem w w' [] := by
  rw [← costs_1]
  exact costP_any p hg (some ⟨g, 0, none⟩) 1 [x] (by simpa using hp) (by simp) w (sl_net hb)
/-- The sum of the first duties whose targets are in a net. -/
def dTo (n : Net) (ks : List Nat) (ds : List Int) : Nat → Int
  | 0 => 0
  | i + 1 => dTo n ks ds i + if n.inside (ks.getD i 0) = true then gi ds i else 0
def aTo (ds : List Int) : Nat → Int
  | 0 => 0
  | i + 1 => aTo ds i + ((gi ds i).natAbs : Int)
theorem dTo_abs (n : Net) (ks : List Nat) (ds : List Int) : ∀ i, -aTo ds i ≤ dTo n ks ds i ∧ dTo n ks ds i ≤ aTo ds i
  | 0 => ⟨by simp [aTo, dTo], by simp [aTo, dTo]⟩
  | i + 1 => by
    have ih := dTo_abs n ks ds i
    rw [dTo, aTo]
    split <;> omega
theorem aTo_mono (ds : List Int) (i : Nat) : ∀ j, i ≤ j → aTo ds i ≤ aTo ds j
  | 0, h => by rw [show i = 0 by omega]; exact Int.le_refl _
  | j + 1, h => by
    rcases Nat.lt_or_ge i (j + 1) with h1 | h1
    · have ih := aTo_mono ds i j (by omega)
      rw [aTo]
      omega
    · rw [show i = j + 1 by omega]; exact Int.le_refl _
theorem gi_snoc_lt (ds : List Int) (x : Int) {i : Nat} (h : i < ds.length) : gi (ds ++ [x]) i = gi ds i := by
  unfold gi
  rw [List.getD_eq_getElem?_getD, List.getD_eq_getElem?_getD, List.getElem?_append_left h]
theorem gi_snoc (ds : List Int) (x : Int) : gi (ds ++ [x]) ds.length = x := by
  unfold gi
  rw [List.getD_eq_getElem?_getD, List.getElem?_append_right (Nat.le_refl _)]
  simp
theorem aTo_snoc (ds : List Int) (x : Int) : ∀ i, i ≤ ds.length → aTo (ds ++ [x]) i = aTo ds i
  | 0, _ => rfl
  | i + 1, h => by rw [aTo, aTo, aTo_snoc ds x i (by omega), gi_snoc_lt ds x (by omega)]
theorem aTo_all (ds : List Int) (x : Int) : aTo (ds ++ [x]) (ds ++ [x]).length = aTo ds ds.length + (x.natAbs : Int) := by
  rw [List.length_append, List.length_singleton, aTo, aTo_snoc ds x _ (Nat.le_refl _), gi_snoc]
def duB : Nat → Int
  | 0 => 0
  | t + 1 => 2 * duB t + 14100
theorem duB_le {t : Nat} (h : t ≤ 12) : duB t ≤ 57753600 := by
  have : ∀ t : Nat, t < 13 → duB t ≤ 57753600 := by decide
  exact this t (by omega)
/-- What a net may still cost its targets. -/
def ownN (p : Prices) (ks : List Nat) (ds : List Int) (n : Net) : Int := netCost p n - dTo n ks ds ds.length
def dStep (d x : Int) : Int := if (decide (d < 0) || decide (x < d)) = true then x else d
def dFold (p : Prices) (ks : List Nat) (ds : List Int) (ns : List Net) (i : Nat) : Int := (ns.take i).foldl (fun d n => dStep d (ownN p ks ds n)) (-1)
theorem dFold_succ (p : Prices) (ks : List Nat) (ds : List Int) {ns : List Net} {i : Nat} (h : i < ns.length) : dFold p ks ds ns (i + 1) = dStep (dFold p ks ds ns i) (ownN p ks ds ns[i]) := by
  rw [dFold, List.take_succ_eq_append_getElem h, List.foldl_append]
  rfl
def duTo (F : Fld) (p : Prices) (ks : List Nat) : Nat → List Int
  | 0 => []
  | t + 1 => duTo F p ks t ++ [dFold p ks (duTo F p ks t) (netsAt F (ks.getD t 0)) (netsAt F (ks.getD t 0)).length]
theorem duTo_len (F : Fld) (p : Prices) (ks : List Nat) : ∀ t, (duTo F p ks t).length = t
  | 0 => rfl
  | t + 1 => by rw [duTo, List.length_append, duTo_len F p ks t]; rfl
theorem own_b {p : Prices} (hg : p.good = true) (ks : List Nat) (ds : List Int) {n : Net} (hn : n.plain = true) : -aTo ds ds.length ≤ ownN p ks ds n ∧ ownN p ks ds n ≤ 14100 + aTo ds ds.length := by
  have h1 := (costOk hg hn).k
  have h2 := dTo_abs n ks ds ds.length
  unfold ownN
  omega
theorem dFold_b {p : Prices} (hg : p.good = true) (ks : List Nat) (ds : List Int) {ns : List Net} (hn : ∀ n ∈ ns, n.plain = true) (h0 : 0 ≤ aTo ds ds.length) : ∀ i, i ≤ ns.length → -(14100 + aTo ds ds.length) ≤ dFold p ks ds ns i ∧ dFold p ks ds ns i ≤ 14100 + aTo ds ds.length
  | 0, _ => ⟨by show _ ≤ (-1 : Int); omega, by show (-1 : Int) ≤ _; omega⟩
  | i + 1, h => by
    have ih := dFold_b hg ks ds hn h0 i (by omega)
    have ho := own_b hg ks ds (hn ns[i] (List.getElem_mem _))
    rw [dFold_succ p ks ds (by omega), dStep]
    split <;> omega
theorem duTo_b {F : Fld} (hv : F.valid = true) {p : Prices} (hg : p.good = true) (ks : List Nat) : ∀ t, 0 ≤ aTo (duTo F p ks t) (duTo F p ks t).length ∧ aTo (duTo F p ks t) (duTo F p ks t).length ≤ duB t
  | 0 => ⟨Int.le_refl 0, Int.le_refl 0⟩
  | t + 1 => by
    have ih := duTo_b hv hg ks t
    have hf := dFold_b hg ks (duTo F p ks t) (ns := netsAt F (ks.getD t 0)) (fun n hn => (Net.snug_of hv (netsAt_fits hn)).1) ih.1 (netsAt F (ks.getD t 0)).length (Nat.le_refl _)
    rw [duTo, aTo_all, duB]
    omega
def duRes (F : Fld) (p : Prices) (c : Cs) : List Int := if prCode F p [] c = 0 then (if wood F c = true then [] else duTo F p c.all c.all.length) else []
theorem all_getD {c : Cs} {i : Nat} (h : i < c.all.length) : c.all[i]? = some (c.all.getD i 0) ∧ c.all.getD i 0 ∈ c.all ∧ c.all.getD i 0 < 100 := by
  have h1 : c.all.getD i 0 = c.all[i] := by rw [List.getD_eq_getElem?_getD, List.getElem?_eq_getElem h]; rfl
  have h2 : c.all[i] ∈ c.all := List.getElem_mem h
  rw [h1]
  exact ⟨List.getElem?_eq_getElem h, h2, (mem_all.1 h2).1⟩
theorem gi_at {ds : List Int} {i : Nat} (h : i < ds.length) : ds[i]? = some (gi ds i) := by
  unfold gi
  rw [List.getD_eq_getElem?_getD, List.getElem?_eq_getElem h]
  rfl
end Go.Proofs.Ytjkclggdaafmaaa
namespace Go.Proofs.Ytjkclggdaafmaaa
set_option linter.unusedSimpArgs false
set_option linter.unusedVariables false
open Go.RowKit

/-- What a search has: how many tries, the least cost (-1: none yet), the nets of it. -/
structure Sk where
  tries : Nat
  least : Int
  best : List Net
/-- Over the nets for one target. -/
def skIn (p : Prices) (B : Nat) (rec : Cs → List Net → Int → Sk → Bool × Sk) (left : Cs) (ns : List Net) (c : Int) : List Net → Sk → Bool × Sk
  | [], s => (true, s)
  | x :: r, s =>
    if 0 ≤ s.least ∧ s.least ≤ c + netCost p x then skIn p B rec left ns c r s
    else if s.tries = B then (false, s)
    else if (rec (left.without (netSet x)) (ns ++ [x]) (c + netCost p x) ⟨s.tries + 1, s.least, s.best⟩).1 = true then
      skIn p B rec left ns c r (rec (left.without (netSet x)) (ns ++ [x]) (c + netCost p x) ⟨s.tries + 1, s.least, s.best⟩).2
    else rec (left.without (netSet x)) (ns ++ [x]) (c + netCost p x) ⟨s.tries + 1, s.least, s.best⟩
def firstOf (left : Cs) : Nat := left.all.getD 0 0
def seek (F : Fld) (p : Prices) (B : Nat) : Nat → Cs → List Net → Int → Sk → Bool × Sk
  | 0, _, _, _, s => (true, s)
  | m + 1, left, ns, c, s => if left.all = [] then (true, ⟨s.tries, c, ns⟩) else skIn p B (seek F p B m) left ns c (netsAt F (firstOf left)) s
section
variable {F : Fld} {p : Prices} {B : Nat}
/-- Nets cover a set. -/
def covers (xs : List Net) (left : Cs) : Prop := ∀ k ∈ left.all, ∃ x ∈ xs, x.inside k = true
/-- What is true of a search that is under way from a part of the targets. -/
structure SkOk (F : Fld) (p : Prices) (T : Cs) (s : Sk) : Prop where
  cov : 0 ≤ s.least → covers s.best T
  fit : 0 ≤ s.least → ∀ x ∈ s.best, x.fits F = true
  sum : 0 ≤ s.least → s.least = costs p s.best
theorem costs_nonneg (hg : p.good = true) {xs : List Net} (h : ∀ x ∈ xs, x.fits F = true) : 0 ≤ costs p xs := (costs_b hg xs fun x hx => Net.fits_plain (h x hx)).1
/-- What is known of a part of the way: the nets so far cover what is not left. -/
structure SkAt (F : Fld) (p : Prices) (T left : Cs) (ns : List Net) (c : Int) : Prop where
  sub : ∀ k ∈ left.all, k ∈ T.all
  cov : ∀ k ∈ T.all, k ∉ left.all → ∃ x ∈ ns, x.inside k = true
  fit : ∀ x ∈ ns, x.fits F = true
  sum : c = costs p ns
theorem SkAt.next {T left : Cs} {ns : List Net} {c : Int} (h : SkAt F p T left ns c) {x : Net} (hx : x.fits F = true) : SkAt F p T (left.without (netSet x)) (ns ++ [x]) (c + netCost p x) where
  sub := fun k hk => h.sub k (by rw [without_all] at hk; exact (List.mem_filter.1 hk).1)
  cov := fun k hk hl => by
    by_cases h1 : k ∈ left.all
    · refine ⟨x, by simp, ?_⟩
      rw [without_all, List.mem_filter] at hl
      have : ¬ ((!(netSet x).has k) = true) := fun e => hl ⟨h1, e⟩
      rw [netSet, pset_has _ (mem_all.1 hk).1] at this
      simpa using this
    · obtain ⟨y, hy, hi⟩ := h.cov k hk h1
      exact ⟨y, List.mem_append_left _ hy, hi⟩
  fit := fun y hy => by
    rcases List.mem_append.1 hy with hy | hy
    · exact h.fit y hy
    · simp at hy; subst hy; exact hx
  sum := by rw [costs_snoc, h.sum]
/-- Where a search ends well, it has what it had, or something that costs no more; no cover of what is left costs less with what was spent. -/
def SkEnd (F : Fld) (p : Prices) (T left : Cs) (c : Int) (s : Sk) (q : Bool × Sk) : Prop :=
  SkOk F p T q.2 ∧ (0 ≤ s.least → 0 ≤ q.2.least ∧ q.2.least ≤ s.least) ∧
    (q.1 = true → ∀ xs : List Net, (∀ x ∈ xs, x.fits F = true) → covers xs left → 0 ≤ q.2.least ∧ q.2.least ≤ c + costs p xs)
theorem costs_split (p : Prices) {xs : List Net} {x : Net} (h : x ∈ xs) : ∃ ys, (∀ y ∈ ys, y ∈ xs) ∧ (∀ y ∈ xs, y = x ∨ y ∈ ys) ∧ costs p xs = netCost p x + costs p ys := by
  obtain ⟨a, b, rfl⟩ := List.append_of_mem h
  refine ⟨a ++ b, fun y hy => ?_, fun y hy => ?_, ?_⟩
  · rcases List.mem_append.1 hy with h | h
    · exact List.mem_append_left _ h
    · exact List.mem_append_right _ (List.mem_cons_of_mem _ h)
  · rcases List.mem_append.1 hy with h | h
    · exact .inr (List.mem_append_left _ h)
    · rcases List.mem_cons.1 h with h | h
      · exact .inl h
      · exact .inr (List.mem_append_right _ h)
  · simp only [costs, List.map_append, List.map_cons, List.sum_append, List.sum_cons]
    omega
theorem netsAt_full {k : Nat} (hk : k < 100) {n : Net} (hf : n.fits F = true) (hi : n.inside k = true) : n ∈ netsAt F k := by
  have hp := Net.plain_iff.1 (Net.fits_plain hf)
  have hf' := hf
  rw [Net.fits, Bool.and_eq_true, Bool.and_eq_true, Bool.and_eq_true] at hf'
  have h1 := of_decide_eq_true hf'.2.1
  have h2 := of_decide_eq_true hf'.2.2.1
  rw [Net.inside, Bool.and_eq_true, inB_iff, inB_iff] at hi
  unfold netsAt
  refine nets4_mem.2 ⟨hf, n.y.toNat, n.x.toNat, (n.y + n.high - 1 - (k / 10 : Nat)).toNat, (n.x + n.wide - 1 - (k % 10 : Nat)).toNat, by omega, by omega, by omega, by omega, ?_⟩
  obtain ⟨a, b, c, d⟩ := n
  simp only [Net.mk.injEq] at *
  refine ⟨by omega, by omega, by omega, by omega⟩
theorem skIn_end (hg : p.good = true) {T left : Cs} {ns : List Net} {c : Int} (h0 : 0 ≤ c) (A : SkAt F p T left ns c) (rec : Cs → List Net → Int → Sk → Bool × Sk)
    (hr : ∀ x, x.fits F = true → x ∈ netsAt F (firstOf left) → ∀ s, SkOk F p T s → (0 ≤ s.least → c + netCost p x ≤ s.least) → SkEnd F p T (left.without (netSet x)) (c + netCost p x) s (rec (left.without (netSet x)) (ns ++ [x]) (c + netCost p x) s)) :
    ∀ (r : List Net) (s : Sk), (∀ x ∈ r, x ∈ netsAt F (firstOf left)) → SkOk F p T s →
      SkOk F p T (skIn p B rec left ns c r s).2 ∧ (0 ≤ s.least → 0 ≤ (skIn p B rec left ns c r s).2.least ∧ (skIn p B rec left ns c r s).2.least ≤ s.least) ∧
        ((skIn p B rec left ns c r s).1 = true → ∀ xs : List Net, (∀ x ∈ xs, x.fits F = true) → covers xs left → (∃ x ∈ r, x ∈ xs) → 0 ≤ (skIn p B rec left ns c r s).2.least ∧ (skIn p B rec left ns c r s).2.least ≤ c + costs p xs)
  | [], s, _, hs => ⟨hs, fun h => ⟨h, Int.le_refl _⟩, fun _ xs _ _ ⟨x, hx, _⟩ => absurd hx (by simp)⟩
  | x :: r, s, hm, hs => by
    have hx := hm x (by simp)
    have hxf := netsAt_fits hx
    have hm' : ∀ y ∈ r, y ∈ netsAt F (firstOf left) := fun y hy => hm y (List.mem_cons_of_mem _ hy)
    -- what the nets that hold x cost
    have tail : ∀ xs : List Net, (∀ y ∈ xs, y.fits F = true) → covers xs left → x ∈ xs → ∃ ys, (∀ y ∈ ys, y.fits F = true) ∧ covers ys (left.without (netSet x)) ∧ costs p xs = netCost p x + costs p ys := by
      intro xs hxs hc hx'
      obtain ⟨ys, h1, h2, h3⟩ := costs_split p hx'
      refine ⟨ys, fun y hy => hxs y (h1 y hy), fun k hk => ?_, h3⟩
      rw [without_all, List.mem_filter] at hk
      obtain ⟨y, hy, hyi⟩ := hc k hk.1
      rcases h2 y hy with rfl | h
      · have := hk.2
        rw [netSet, pset_has _ (mem_all.1 hk.1).1, hyi] at this
        cases this
      · exact ⟨y, h, hyi⟩
    rw [skIn]
    split
    · rename_i hc
      obtain ⟨i1, i2, i3⟩ := skIn_end hg h0 A rec hr r s hm' hs
      refine ⟨i1, i2, fun hq xs hxs hcov ⟨y, hy, hyx⟩ => ?_⟩
      rcases List.mem_cons.1 hy with rfl | hy
      · obtain ⟨ys, hys, _, he⟩ := tail xs hxs hcov hyx
        have := costs_nonneg hg hys
        have := i2 hc.1
        omega
      · exact i3 hq xs hxs hcov ⟨y, hy, hyx⟩
    · split
      · exact ⟨hs, fun h => ⟨h, Int.le_refl _⟩, fun h => by cases h⟩
      · rename_i hnc _
        have hs2 : SkOk F p T ⟨s.tries + 1, s.least, s.best⟩ := ⟨hs.cov, hs.fit, hs.sum⟩
        obtain ⟨j1, j2, j3⟩ := hr x hxf hx ⟨s.tries + 1, s.least, s.best⟩ hs2 (fun h => by
          have h : 0 ≤ s.least := h
          show _ ≤ s.least
          rcases Int.lt_or_le (c + netCost p x) s.least with h9 | h9
          · omega
          · exact absurd ⟨h, h9⟩ hnc)
        split
        · rename_i hq1
          obtain ⟨i1, i2, i3⟩ := skIn_end hg h0 A rec hr r _ hm' j1
          refine ⟨i1, fun h => ?_, fun hq xs hxs hcov ⟨y, hy, hyx⟩ => ?_⟩
          · have a := j2 h
            have b := i2 a.1
            exact ⟨b.1, Int.le_trans b.2 a.2⟩
          · rcases List.mem_cons.1 hy with rfl | hy
            · obtain ⟨ys, hys, hcy, he⟩ := tail xs hxs hcov hyx
              have a := j3 hq1 ys hys hcy
              have b := i2 a.1
              omega
            · exact i3 hq xs hxs hcov ⟨y, hy, hyx⟩
        · rename_i hq1
          exact ⟨j1, j2, fun h => absurd h hq1⟩
theorem firstOf_mem {left : Cs} (h : left.all ≠ []) : firstOf left ∈ left.all := by
  unfold firstOf
  cases ha : left.all with
  | nil => exact absurd ha h
  | cons k r => simp
theorem seek_end (hg : p.good = true) {T : Cs} : ∀ (m : Nat) (left : Cs) (ns : List Net) (c : Int) (s : Sk), left.all.length < m → SkAt F p T left ns c → SkOk F p T s → (0 ≤ s.least → c ≤ s.least) → SkEnd F p T left c s (seek F p B m left ns c s)
  | 0, _, _, _, _, h, _, _, _ => absurd h (Nat.not_lt_zero _)
  | m + 1, left, ns, c, s, hm, A, hs, hcs => by
    have h0 : 0 ≤ c := by rw [A.sum]; exact costs_nonneg hg A.fit
    rw [seek]
    split
    · rename_i hz
      refine ⟨⟨fun _ k hk => A.cov k hk (by rw [hz]; simp), fun _ => A.fit, fun _ => A.sum⟩, fun h => ⟨h0, hcs h⟩, fun _ xs hxs _ => ⟨h0, ?_⟩⟩
      · have := costs_nonneg hg hxs
        show c ≤ _
        omega
    · rename_i hz
      have hk := firstOf_mem hz
      have hk1 := (mem_all.1 hk).1
      obtain ⟨i1, i2, i3⟩ := skIn_end (B := B) hg h0 A (seek F p B m) (fun x hxf hx s' hs' hc' => seek_end hg m _ _ _ s' (by
        have := without_lt hk (s := netSet x) (by rw [netSet, pset_has _ hk1]; exact netsAt_inside hx)
        omega) (A.next hxf) hs' hc') (netsAt F (firstOf left)) s (fun _ h => h) hs
      refine ⟨i1, i2, fun hq xs hxs hcov => ?_⟩
      obtain ⟨x, hx, hxi⟩ := hcov _ hk
      exact i3 hq xs hxs hcov ⟨x, netsAt_full hk1 (hxs x hx) hxi, hx⟩
/-! ### The cheapest nets -/
def sk0 : Sk := ⟨0, -1, []⟩
def seekAll (F : Fld) (p : Prices) (c : Cs) (B : Nat) : Bool × Sk := seek F p B 13 c.cut [] 0 sk0
/-- A search that ends well has a cover, and none costs less. -/
theorem seekAll_end (hg : p.good = true) {c : Cs} (h12 : c.all.length ≤ 12) (hne : ∀ k ∈ c.all, netsAt F k ≠ []) (hq : (seekAll F p c B).1 = true) :
    (∀ x ∈ (seekAll F p c B).2.best, x.fits F = true) ∧ covers (seekAll F p c B).2.best c ∧ (seekAll F p c B).2.least = costs p (seekAll F p c B).2.best ∧ 0 ≤ (seekAll F p c B).2.least ∧
      ∀ xs : List Net, (∀ x ∈ xs, x.fits F = true) → covers xs c → (seekAll F p c B).2.least ≤ costs p xs := by
  have A : SkAt F p c c.cut [] 0 := ⟨fun k hk => by rwa [cut_all] at hk, fun k hk hl => absurd (by rwa [cut_all]) hl, fun x hx => by simp at hx, rfl⟩
  have hs : SkOk F p c sk0 := ⟨fun h => absurd h (by decide), fun h => absurd h (by decide), fun h => absurd h (by decide)⟩
  obtain ⟨i1, _, i3⟩ := seek_end (B := B) hg 13 c.cut [] 0 sk0 (by rw [cut_all]; omega) A hs (fun h => absurd h (by decide))
  have i4 : ∀ xs : List Net, (∀ x ∈ xs, x.fits F = true) → covers xs c → 0 ≤ (seekAll F p c B).2.least ∧ (seekAll F p c B).2.least ≤ costs p xs := fun xs hxs hcov => by
    have := i3 hq xs hxs (fun k hk => hcov k (by rwa [cut_all] at hk))
    rw [Int.zero_add] at this
    exact this
  have h0 := (i4 (c.all.flatMap (netsAt F)) (fun x hx => by
    obtain ⟨k, _, hk⟩ := List.mem_flatMap.1 hx
    exact netsAt_fits hk) (fun k hk => by
    cases hn : netsAt F k with
    | nil => exact absurd hn (hne k hk)
    | cons x r =>
      have hx : x ∈ netsAt F k := by rw [hn]; simp
      exact ⟨x, List.mem_flatMap.2 ⟨k, hk, hx⟩, netsAt_inside hx⟩)).1
  exact ⟨i1.fit h0, i1.cov h0, i1.sum h0, h0, fun xs hxs hcov => (i4 xs hxs hcov).2⟩
end
end Go.Proofs.Ytjkclggdaafmaaa
namespace Go.Proofs.Ytjkclggdaafmaaa
set_option linter.unusedSimpArgs false
set_option linter.unusedVariables false
open Go.RowKit

end Go.Proofs.Ytjkclggdaafmaaa
namespace Go.Proofs.Ytjkclggdaafmaaa
set_option linter.unusedSimpArgs false
set_option linter.unusedVariables false
open Go.RowKit
attribute [local go_sem] cell?_mk frozen?_mk
--ONES exact Cs.one _ | exact Net.one _ | exact Prices.one _
def RetNI (w : World) (ns : List Net) (s code : Int) (e : Ending) (w' : World) : Prop :=
  ∃ A c, e = .returned (.tuple #[.slice A ns.length c, .int .i64 s, .int .i64 code]) ∧ ns.length ≤ c ∧ Mem w w' [.row (.slice A ns.length c) 65 4 ns.length (flat Net.vals ns)]
end Go.Proofs.Ytjkclggdaafmaaa
namespace Go.Proofs.Ytjkclggdaafmaaa
set_option linter.unusedSimpArgs false
set_option linter.unusedVariables false
open Go.RowKit

/-- All blocks but g are as they were; new ones may have come. -/
structure Oth (g : Nat) (w w1 : World) : Prop where
  os : w1.os = w.os
  tape : w1.tape = w.tape
  output : w1.output = w.output
  size : w.heap.size ≤ w1.heap.size
  block : ∀ k, k < w.heap.size → k ≠ g → w1.heap[k]? = w.heap[k]?
section
variable {w0 w w1 w2 : World} {g : Nat} {L : List Ent}
theorem Oth.refl (g : Nat) (w : World) : Oth g w w := ⟨rfl, rfl, rfl, Nat.le_refl _, fun _ _ _ => rfl⟩
theorem Oth.trans (h : Oth g w w1) (k : Oth g w1 w2) : Oth g w w2 :=
  ⟨k.os.trans h.os, k.tape.trans h.tape, k.output.trans h.output, Nat.le_trans h.size k.size, fun i hi hg => (k.block i (Nat.lt_of_lt_of_le hi h.size) hg).trans (h.block i hi hg)⟩
theorem Oth.of_below (h : Below w.heap.size w w1) : Oth g w w1 := ⟨h.os, h.tape, h.output, h.size, fun k hk _ => h.block k hk⟩
theorem Oth.of_upd (h : Upd w w1 g) : Oth g w w1 := ⟨h.os, h.tape, h.output, by rw [h.size]; exact Nat.le_refl _, fun k _ hk => h.block k hk⟩
theorem Oth.below {B : Nat} (h : Oth g w w1) (hB : B ≤ g) (hw : B ≤ w.heap.size) : Below B w w1 := ⟨h.os, h.tape, h.output, h.size, fun k hk => h.block k (by omega) (by omega)⟩
theorem Mem.oth (M : Mem w0 w L) (g : Nat) : Oth g w0 w := Oth.of_below M.below
theorem Oth.blk {k : Nat} {t : TypeId} {cs : Array Value} (h : Oth g w w1) (hb : Blk w k t cs) (hk : k ≠ g) : Blk w1 k t cs := (h.block k hb.lt hk).trans hb
theorem Oth.row {base : Nat} {e : TypeId} {sz n : Nat} {v : Value} {cs : List Value} (h : Oth g w w1) (hr : w.ownsRow base e sz v n cs) (hv : v.ownBlock ≠ some g) : w1.ownsRow base e sz v n cs := by
  refine ⟨hr.1, ?_⟩
  rcases hr.2 with hn | ⟨b, cap, cur, rfl, hb, hg, rest⟩
  · exact .inl hn
  · exact .inr ⟨b, cap, cur, rfl, hb, (h.block b (Array.getElem?_eq_some_iff.1 hg).1 (fun e => hv (by rw [e]; rfl))).trans hg, rest⟩
theorem row_sl {base : Nat} {e : TypeId} {sz n c : Nat} {A : Option Addr} {cs : List Value} (hr : w.ownsRow base e sz (.slice A n c) n cs) : Sl w sz A n cs := by
  refine ⟨hr.1, fun hn => ?_⟩
  rcases hr.2 with ⟨_, h0⟩ | ⟨b, cap, cur, e1, _⟩
  · omega
  · injection e1 with e1 _ _
    subst e1
    refine ⟨b, 0, rfl, fun j u hu => ?_⟩
    have hj := (List.getElem?_eq_some_iff.1 hu).1
    have := hr.1
    rw [Nat.zero_add, World.ownsRow.cellAt (cap := c) (by simpa using hr) j (by omega), hu]
theorem Oth.row_sl {base : Nat} {e : TypeId} {sz n c : Nat} {A : Option Addr} {cs : List Value} (h : Oth g w w1) (hr : w.ownsRow base e sz (.slice A n c) n cs) (hg : g < base) : Sl w1 sz A n cs := by
  refine Go.Proofs.Ytjkclggdaafmaaa.row_sl (h.row hr fun e => ?_)
  rcases hr.2 with ⟨_, h0⟩ | ⟨b, cap, cur, e1, hb, _⟩
  · rename_i q
    cases q
    cases e
  · injection e1 with e1 _ _
    subst e1
    simp only [Value.ownBlock, Option.some.injEq] at e
    omega
/-- A base in which block g is as it is now. -/
theorem Mem.rebase (M : Mem w0 w L) (hg : g < w0.heap.size) (h : Oth g w w1) :
    ∃ v1, Mem v1 w1 L ∧ Oth g w0 v1 ∧ v1.heap.size = w0.heap.size ∧ v1.heap[g]? = w1.heap[g]? := by
  have hgw : g < w.heap.size := Nat.lt_of_lt_of_le hg M.size
  have hg1 : g < w1.heap.size := Nat.lt_of_lt_of_le hgw h.size
  refine ⟨{ w0 with heap := w0.heap.set g w1.heap[g] hg }, ⟨⟨h.os.trans M.below.os, h.tape.trans M.below.tape, h.output.trans M.below.output, ?_, ?_⟩, ?_, M.sep⟩, ⟨rfl, rfl, rfl, ?_, ?_⟩, ?_, ?_⟩
  · simp only [Array.size_set]
    exact Nat.le_trans M.size h.size
  · intro k hk
    simp only [Array.size_set] at hk ⊢
    by_cases e : k = g
    · subst e
      simp [Array.getElem?_eq_getElem hg1]
    · rw [Array.getElem?_set_ne _ (Ne.symm e), h.block k (Nat.lt_of_lt_of_le hk M.size) e]
      exact M.below.block k hk
  · intro i x hx
    have hh := M.all i x hx
    simp only [Array.size_set]
    exact hh.keep fun k hk => h.block k (hh.lt hk).2 (by have := (hh.lt hk).1; omega)
  · simp
  · intro k hk e
    simp only
    rw [Array.getElem?_set_ne _ (Ne.symm e)]
  · simp
  · simp [Array.getElem?_eq_getElem hg1]
end

section
variable {P : Program} {ops : Array Oper} {rest : List Oper} {o : Oper} {a : Act} {w0 w : World} {Q : Exit → Act → World → Prop} {L : List Ent}
/-- A store of one cell into a block that was there before; the base is taken anew. -/
theorem Mem.ev_poke (M : Mem w0 w L) (T : TypeId) (x y : Operand) (ho : o.op = .store T x y) (hgd : o.guard = none) {g j : Nat} {t : TypeId} {cs : Array Value} (hb : Blk w0 g t cs)
    (hx : a.eval x = .pointer (some ⟨g, j, none⟩)) (v : Value) (hy : a.eval y = v)
    (hj : j < cs.size) (hi : (P.info? T).map (·.size) = some 1) (h1 : v.oneCell' = true) (hdst : o.dst = none)
    (h : ∀ v1 w1, Mem v1 w1 L → Oth g w0 v1 → Blk v1 g t (cs.setIfInBounds j v) → wpList P ops Q rest a w1) : wpList P ops Q (o :: rest) a w :=
  Go.Proofs.Ytjkclggdaafmaaa.ev_put T x y ho hgd (M.arg hb) hx v hy hj hi h1 hdst fun w1 hb1 hU => by
    obtain ⟨v1, m, ho, _, he⟩ := M.rebase hb.lt (Oth.of_upd hU)
    exact h v1 w1 m ho (he.trans hb1)
end

/-- A value as it stands, told as a datum. -/
def heldE (v : Value) : Option (DataW Value × List MemPlace) := some (.held v, [])
/-- A map of the call's own; what each key has (a nil slice, where nothing was stored). -/
def MapAt (P : Program) (k : TypeId) (w : World) (b n : Nat) (f : Int → Value) : Prop :=
  ∃ D, w.ownsMap P k heldE b n D ∧ ∀ x : Int, (Lit.int .i64 x).wf = true → D.atKey (.int .i64 x) (.held (.slice none 0 0)) = .held (f x)
section
variable {P : Program} {k t e : TypeId} {w w1 : World} {b n : Nat} {f : Int → Value}
theorem MapAt.made (w : World) (P : Program) (k : TypeId) : MapAt P k (w.alloc (.map #[] 0)) w.heap.size 0 (fun _ => .slice none 0 0) :=
  ⟨_, World.ownsMap_made w P k heldE, fun _ _ => rfl⟩
theorem MapAt.kept (h : MapAt P k w b n f) (he : w1.heap[b]? = w.heap[b]?) : MapAt P k w1 b n f := by
  obtain ⟨D, ⟨es, clock, hb, r⟩, hf⟩ := h
  exact ⟨D, ⟨es, clock, he.trans hb, r⟩, hf⟩
theorem MapAt.lt (h : MapAt P k w b n f) : b < w.heap.size := by
  obtain ⟨D, ho, _⟩ := h
  exact ho.lt
theorem MapAt.look (h : MapAt P k w b n f) (hk : P.underlying k = some (.int .i64)) (ht : P.underlying t = some (.map k e)) (hz : (zeroValue e).run P w = .ok (.slice none 0 0) w) (x : Int) (hx : (Lit.int .i64 x).wf = true) :
    (Instr.lookup t (.map (some b)) (.int .i64 x) false).run P w = .ok (f x) w := by
  obtain ⟨D, ho, hf⟩ := h
  obtain ⟨v, ps, hr, hv⟩ := ho.lookup (Go.Maps.int_keyed hk) ht hz (zd := .held (.slice none 0 0)) (zp := []) rfl (Go.Maps.keyOf_int_mk hk hx)
  rw [hf x hx] at hv
  simp only [heldE, Option.some.injEq, Prod.mk.injEq, DataW.held.injEq] at hv
  rw [hr, hv.1]
theorem MapAt.put (h : MapAt P k w b n f) (hk : P.underlying k = some (.int .i64)) (ht : P.underlying t = some (.map k e)) (hn : n < maxLen) (x : Int) (hx : (Lit.int .i64 x).wf = true) (v : Value) :
    ∃ w1, (Instr.mapUpdate t (.map (some b)) (.int .i64 x) v).run P w = .ok () w1 ∧ MapAt P k w1 b (n + 1) (fun y => if y = x then v else f y) ∧ w.grownBy w1 (some b) := by
  obtain ⟨D, ho, hf⟩ := h
  obtain ⟨w1, hr, ho1, hg⟩ := ho.update (Go.Maps.int_keyed hk) ht hn (key := .int .i64 x) (val := v) (d := .held v) (ps := []) (Go.Maps.keyOf_int_mk hk hx) rfl
  have hm : Go.Maps.IsMap D := by
    obtain ⟨_, _, _, _, _, e⟩ := ho
    exact ⟨_, e⟩
  refine ⟨w1, hr, ⟨_, ho1, fun y hy => ?_⟩, hg⟩
  show _ = DataW.held (if y = x then v else f y)
  by_cases e : y = x
  · subst e
    rw [if_pos rfl, Go.Maps.atKey_put_same hm ((Go.Maps.int_keyed hk).key (Go.Maps.keyOf_int_mk hk hx))]
  · rw [if_neg e, Go.Maps.atKey_put_other (fun q => e (by injection q))]
    exact hf y hy
end
end Go.Proofs.Ytjkclggdaafmaaa
namespace Go.Proofs.Ytjkclggdaafmaaa
set_option linter.unusedSimpArgs false
set_option linter.unusedVariables false
open Go.RowKit

/-- A net with its cells and its cost. -/
def covVals (p : Prices) (x : Net) : List Value := [.int .i8 x.x, .int .i8 x.y, .int .i8 x.wide, .int .i8 x.high, .int .u64 (netSet x).lo, .int .u64 (netSet x).hi, .int .i64 (netCost p x)]
/-- The cells of a shopper. -/
def shc (bm B : Nat) (bv : Value) (s : Sk) : Array Value := #[.map (some bm), .int .i64 s.tries, .int .i64 B, bv, .int .i64 s.least]
def Best (base sb : Nat) (w : World) (bv : Value) (s : Sk) : Prop := bv.ownBlock ≠ some sb ∧ w.ownsRow base 65 4 bv s.best.length (flat Net.vals s.best)
theorem Best.oth {base sb : Nat} {w w1 : World} {bv : Value} {s : Sk} (h : Best base sb w bv s) (ho : Oth sb w w1) : Best base sb w1 bv s := ⟨h.1, ho.row h.2 h.1⟩
/-- What the shopper has for each target: its nets. -/
def Shop (F : Fld) (p : Prices) (T : Cs) (bm sb : Nat) (w : World) : Prop :=
  ∀ k ∈ T.all, ∃ A c, ∀ w', Oth sb w w' → (Instr.lookup 91 (.map (some bm)) (.int .i64 k) false).run Try.prog w' = .ok (.slice A (netsAt F k).length c) w' ∧
    Sl w' 7 A (netsAt F k).length (flat (covVals p) (netsAt F k))
theorem Shop.oth {F : Fld} {p : Prices} {T : Cs} {bm sb : Nat} {w w1 : World} (h : Shop F p T bm sb w) (ho : Oth sb w w1) : Shop F p T bm sb w1 := fun k hk => by
  obtain ⟨A, c, h1⟩ := h k hk
  exact ⟨A, c, fun w' h' => h1 w' (ho.trans h')⟩
structure LkIn (F : Fld) (p : Prices) (T : Cs) (sb bm B base m : Nat) (left : Cs) (ns : List Net) (n : Nat) (c : Int) (s : Sk) (bv : Value) (A : Option Addr) (cap : Nat) (w : World) : Prop where
  ok : left.ok
  cut : ∀ k, 100 ≤ k → k < 128 → left.has k = false
  sub : ∀ k ∈ left.all, k ∈ T.all
  lt : left.all.length < m
  c0 : 0 ≤ c
  c1 : c + 14100 * m ≤ 200000
  len : ns.length = n
  nl : n + m ≤ 20
  room : n ≤ cap
  empt : A = none → cap = 0
  tr : s.tries ≤ B
  bk : Blk w sb 93 (shc bm B bv s)
  best : Best base sb w bv s
  shop : Shop F p T bm sb w
  sl : ∀ w', Oth sb w w' → Sl w' 4 A n (flat Net.vals ns)
def RetLook (w : World) (base sb bm B : Nat) (q : Bool × Sk) (e : Ending) (w' : World) : Prop :=
  ∃ bv, e = .returned (.bool q.1) ∧ Oth sb w w' ∧ Blk w' sb 93 (shc bm B bv q.2) ∧ Best base sb w' bv q.2
section
variable {F : Fld} {p : Prices} {T : Cs} {sb bm B base m : Nat}
theorem seek_tries : ∀ (m : Nat) (left : Cs) (ns : List Net) (c : Int) (s : Sk), s.tries ≤ B → (seek F p B m left ns c s).2.tries ≤ B
  | 0, _, _, _, _, h => h
  | m + 1, left, ns, c, s, h => by
    rw [seek]
    split
    · exact h
    · have key : ∀ (r : List Net) (s : Sk), s.tries ≤ B → (skIn p B (seek F p B m) left ns c r s).2.tries ≤ B := by
        intro r
        induction r with
        | nil => exact fun s h => h
        | cons x r ih =>
          intro s h
          rw [skIn]
          split
          · exact ih s h
          · split
            · exact h
            · have h9 := seek_tries m (left.without (netSet x)) (ns ++ [x]) (c + netCost p x) ⟨s.tries + 1, s.least, s.best⟩ (by show s.tries + 1 ≤ B; omega)
              split
              · exact ih _ h9
              · exact h9
      exact key _ s h
theorem skIn_skip {rec : Cs → List Net → Int → Sk → Bool × Sk} {left : Cs} {ns : List Net} {c : Int} {x : Net} {r : List Net} {s : Sk} (h1 : 0 ≤ s.least) (h2 : s.least ≤ c + netCost p x) :
    skIn p B rec left ns c (x :: r) s = skIn p B rec left ns c r s := by rw [skIn, if_pos ⟨h1, h2⟩]
theorem skIn_out {rec : Cs → List Net → Int → Sk → Bool × Sk} {left : Cs} {ns : List Net} {c : Int} {x : Net} {r : List Net} {s : Sk} (h1 : ¬ (0 ≤ s.least ∧ s.least ≤ c + netCost p x)) (h2 : s.tries = B) :
    skIn p B rec left ns c (x :: r) s = (false, s) := by rw [skIn, if_neg h1, if_pos h2]
theorem skIn_in {rec : Cs → List Net → Int → Sk → Bool × Sk} {left : Cs} {ns : List Net} {c : Int} {x : Net} {r : List Net} {s : Sk} (h1 : ¬ (0 ≤ s.least ∧ s.least ≤ c + netCost p x)) (h2 : ¬ s.tries = B)
    {q : Bool × Sk} (hq : rec (left.without (netSet x)) (ns ++ [x]) (c + netCost p x) ⟨s.tries + 1, s.least, s.best⟩ = q) :
    skIn p B rec left ns c (x :: r) s = if q.1 = true then skIn p B rec left ns c r q.2 else q := by
  subst hq
  rw [skIn, if_neg h1, if_neg h2]
theorem LkIn.first {left : Cs} {ns : List Net} {n : Nat} {c : Int} {s : Sk} {bv : Value} {A : Option Addr} {cap : Nat} {w : World} (h : LkIn F p T sb bm B base m left ns n c s bv A cap w) (hz : left ≠ Cs.z) :
    ∃ r, left.all = firstOf left :: r := by
  cases ha : left.all with
  | nil => exact absurd (all_nil h.ok h.cut ha) hz
  | cons k r => exact ⟨r, by rw [firstOf, ha]; rfl⟩
theorem LkIn.next {left : Cs} {ns : List Net} {n : Nat} {c : Int} {s : Sk} {bv : Value} {A : Option Addr} {cap : Nat} {w : World} (h : LkIn F p T sb bm B base (m + 1) left ns n c s bv A cap w) (hg : p.good = true) (hz : left ≠ Cs.z)
    {x : Net} (hx : x ∈ netsAt F (firstOf left)) {s' : Sk} {bv' : Value} {w1 v : World} (hO : Oth sb w w1) (hb : Blk w1 sb 93 (shc bm B bv' ⟨s'.tries + 1, s'.least, s'.best⟩)) (hbest : Best base sb w1 bv' s') (ht : s'.tries < B)
    {A' : Option Addr} {c' : Nat} (hrow : w1.ownsRow v.heap.size 65 4 (.slice A' (n + 1) c') (n + 1) (flat Net.vals ns ++ Net.vals x)) (hsb : sb < v.heap.size) (hc' : n + 1 ≤ c') (hA' : A' = none → c' = 0) :
    LkIn F p T sb bm B base m (left.without (netSet x)) (ns ++ [x]) (n + 1) (c + netCost p x) ⟨s'.tries + 1, s'.least, s'.best⟩ bv' A' c' w1 := by
  obtain ⟨r, hr⟩ := h.first hz
  have hm : firstOf left ∈ left.all := by rw [hr]; simp
  have hk := (mem_all.1 hm).1
  have hc := (costOk hg (Net.fits_plain (netsAt_fits hx))).k
  have hl := without_lt hm (s := netSet x) (by rw [netSet, pset_has _ hk]; exact netsAt_inside hx)
  have h1 := h.lt
  have h2 := h.c0
  have h3 := h.c1
  have h4 := h.nl
  have h5 := h.len
  refine ⟨Cs.without_ok _ _, without_cut _ _, fun k hk => ?_, by omega, by omega, by omega, by simp [h5], by omega, hc', hA', ht, hb, hbest, h.shop.oth hO, fun w' hw' => ?_⟩
  · rw [without_all] at hk
    exact h.sub k (List.mem_filter.1 hk).1
  · rw [flat_snoc]
    exact hw'.row_sl hrow hsb
end
end Go.Proofs.Ytjkclggdaafmaaa
namespace Go.Proofs.Ytjkclggdaafmaaa
set_option linter.unusedSimpArgs false
set_option linter.unusedVariables false
open Go.RowKit

def bitsOf (f : Nat → Bool) : Nat → Nat
  | 0 => 0
  | m + 1 => if f m = true then bitsOf f m ||| 2 ^ m else bitsOf f m
theorem bitsOf_bit (f : Nat → Bool) (j : Nat) : ∀ m, (bitsOf f m).testBit j = (decide (j < m) && f j)
  | 0 => by simp [bitsOf]
  | m + 1 => by
    rw [bitsOf]
    split
    · rename_i h
      rw [Nat.testBit_or, bitsOf_bit f j m, Nat.testBit_two_pow]
      by_cases e : m = j
      · subst e
        simp [h]
      · rw [decide_eq_false e, Bool.or_false, show decide (j < m) = decide (j < m + 1) by rw [decide_eq_decide]; omega]
    · rename_i h
      rw [bitsOf_bit f j m]
      by_cases e : m = j
      · subst e
        simp [h]
      · rw [show decide (j < m) = decide (j < m + 1) by rw [decide_eq_decide]; omega]
theorem bitsOf_lt (f : Nat → Bool) : ∀ m, bitsOf f m < 2 ^ m
  | 0 => by simp [bitsOf]
  | m + 1 => by
    have h := bitsOf_lt f m
    have h2 : 2 ^ m < 2 ^ (m + 1) := Nat.pow_lt_pow_right (by omega) (by omega)
    rw [bitsOf]
    split
    · exact Nat.or_lt_two_pow (by omega) h2
    · omega
theorem bitsOf_u16 (f : Nat → Bool) {m : Nat} (hm : m ≤ 12) : bitsOf f m < 4096 := Nat.lt_of_lt_of_le (bitsOf_lt f m) (Nat.pow_le_pow_right (n := 2) (by omega) hm)
def maskN (ts : List Nat) (x : Net) : Nat := bitsOf (fun j => x.inside (ts.getD j 0)) ts.length
def covN (ts : List Nat) (left : Cs) : Nat := bitsOf (fun j => !left.has (ts.getD j 0)) ts.length
theorem covN_or {ts : List Nat} (h : ∀ k ∈ ts, k < 100) (left : Cs) (x : Net) : covN ts left ||| maskN ts x = covN ts (left.without (netSet x)) := by
  apply Nat.eq_of_testBit_eq
  intro j
  rw [Nat.testBit_or, covN, maskN, covN, bitsOf_bit, bitsOf_bit, bitsOf_bit]
  by_cases hj : j < ts.length
  · have hk : ts.getD j 0 < 100 := h _ (by rw [List.getD_eq_getElem?_getD, List.getElem?_eq_getElem hj]; exact List.getElem_mem hj)
    rw [Cs.without_has _ _ hk, netSet, pset_has _ hk, decide_eq_true hj]
    cases left.has (ts.getD j 0) <;> cases x.inside (ts.getD j 0) <;> rfl
  · simp [decide_eq_false hj]
theorem all_filter {left T : Cs} (h : ∀ k ∈ left.all, k ∈ T.all) : left.all = T.all.filter left.has := by
  unfold Cs.all Cs.below
  rw [List.filter_filter]
  refine List.filter_congr fun k hk => ?_
  cases hl : left.has k
  · simp
  · have := (List.mem_filter.1 (h k (List.mem_filter.2 ⟨hk, hl⟩))).2
    simp [this]
theorem covN_full {T left : Cs} (h : ∀ k ∈ left.all, k ∈ T.all) : covN T.all left = 2 ^ T.all.length - 1 ↔ left.all = [] := by
  constructor
  · intro he
    rw [all_filter h, List.filter_eq_nil_iff]
    intro k hk hl
    obtain ⟨j, hj, rfl⟩ := List.getElem_of_mem hk
    have h1 : (covN T.all left).testBit j = true := by rw [he, Nat.testBit_two_pow_sub_one, decide_eq_true hj]
    rw [covN, bitsOf_bit, decide_eq_true hj, List.getD_eq_getElem?_getD, List.getElem?_eq_getElem hj, Bool.true_and] at h1
    rw [show (some T.all[j]).getD 0 = T.all[j] from rfl, hl] at h1
    cases h1
  · intro hn
    apply Nat.eq_of_testBit_eq
    intro j
    rw [covN, bitsOf_bit, Nat.testBit_two_pow_sub_one]
    by_cases hj : j < T.all.length
    · rw [decide_eq_true hj, Bool.true_and, List.getD_eq_getElem?_getD, List.getElem?_eq_getElem hj]
      rw [all_filter h, List.filter_eq_nil_iff] at hn
      have := hn _ (List.getElem_mem hj)
      simpa using this
    · simp [decide_eq_false hj]
theorem filter_first {p : Nat → Bool} {k : Nat} {r : List Nat} : ∀ {ts : List Nat}, ts.filter p = k :: r → ∃ t, ts[t]? = some k ∧ (∀ j, j < t → p (ts.getD j 0) = false) ∧ p k = true
  | [], h => by cases h
  | a :: ts, h => by
    rw [List.filter_cons] at h
    split at h
    · rename_i ha
      injection h with h1 h2
      subst h1
      exact ⟨0, rfl, fun j hj => absurd hj (Nat.not_lt_zero _), ha⟩
    · rename_i ha
      obtain ⟨t, h1, h2, h3⟩ := filter_first h
      refine ⟨t + 1, by simpa using h1, fun j hj => ?_, h3⟩
      cases j with
      | zero => simpa using ha
      | succ j => simpa using h2 j (by omega)
/-- The first target that is not covered: the first bit that is not set. -/
theorem covN_first {T left : Cs} (h : ∀ k ∈ left.all, k ∈ T.all) (hn : left.all ≠ []) : ∃ t, t < T.all.length ∧ T.all[t]? = some (firstOf left) ∧ (∀ j, j < t → covN T.all left / 2 ^ j % 2 = 1) ∧ covN T.all left / 2 ^ t % 2 = 0 := by
  cases ha : left.all with
  | nil => exact absurd ha hn
  | cons k r =>
    have hk : firstOf left = k := by rw [firstOf, ha]; rfl
    have hf := all_filter h
    rw [ha] at hf
    obtain ⟨t, h1, h2, h3⟩ := filter_first hf.symm
    have ht : t < T.all.length := (List.getElem?_eq_some_iff.1 h1).1
    refine ⟨t, ht, by rw [hk, h1], fun j hj => ?_, ?_⟩
    · have : (covN T.all left).testBit j = true := by rw [covN, bitsOf_bit, decide_eq_true (by omega : j < T.all.length), h2 j hj]; rfl
      rw [Nat.testBit_eq_decide_div_mod_eq] at this
      exact of_decide_eq_true this
    · have : (covN T.all left).testBit t = false := by rw [covN, bitsOf_bit, List.getD_eq_getElem?_getD, h1]; simp [h3]
      rw [Nat.testBit_eq_decide_div_mod_eq] at this
      have := of_decide_eq_false this
      omega
theorem covN_start {T : Cs} : covN T.all T.cut = 0 := by
  apply Nat.eq_of_testBit_eq
  intro j
  rw [covN, bitsOf_bit, Nat.zero_testBit]
  by_cases hj : j < T.all.length
  · rw [decide_eq_true hj, List.getD_eq_getElem?_getD, List.getElem?_eq_getElem hj]
    have := mem_all.1 (List.getElem_mem hj)
    show (true && !T.cut.has T.all[j]) = false
    rw [Cs.cut_has _ this.1, this.2]
    rfl
  · simp [decide_eq_false hj]

/-- The cells of the reference's search. -/
def s4c (vn vm vc : Value) (al B : Nat) (bv : Value) (s : Sk) : Array Value := #[vn, vm, vc, .int .u16 al, .int .i64 B, .int .i64 s.tries, bv, .int .i64 (if 0 ≤ s.least then s.least else 0), .bool (decide (0 ≤ s.least))]
def one16 (n : Nat) : List Value := [.int .u16 n]
def oneC (p : Prices) (x : Net) : List Value := [.int .i64 (netCost p x)]
def Shop2 (F : Fld) (p : Prices) (ts : List Nat) (sb : Nat) (w : World) (vn vm vc : Value) : Prop :=
  0 < ts.length → ∃ bn on cn bk ok ck bc oc cc, vn = .slice (some ⟨bn, on, none⟩) ts.length cn ∧ vm = .slice (some ⟨bk, ok, none⟩) ts.length ck ∧ vc = .slice (some ⟨bc, oc, none⟩) ts.length cc ∧
    ∀ t, ts[t]?.isSome = true → ∃ A1 c1 A2 c2 A3 c3, ∀ w', Oth sb w w' →
      w'.cell? ⟨bn, on + t, none⟩ = some (.slice A1 (netsAt F (ts.getD t 0)).length c1) ∧ w'.cell? ⟨bk, ok + t, none⟩ = some (.slice A2 (netsAt F (ts.getD t 0)).length c2) ∧ w'.cell? ⟨bc, oc + t, none⟩ = some (.slice A3 (netsAt F (ts.getD t 0)).length c3) ∧
      Sl w' 4 A1 (netsAt F (ts.getD t 0)).length (flat Net.vals (netsAt F (ts.getD t 0))) ∧ Sl w' 1 A2 (netsAt F (ts.getD t 0)).length (flat (fun x => one16 (maskN ts x)) (netsAt F (ts.getD t 0))) ∧
      Sl w' 1 A3 (netsAt F (ts.getD t 0)).length (flat (oneC p) (netsAt F (ts.getD t 0)))
theorem Shop2.oth {F : Fld} {p : Prices} {ts : List Nat} {sb : Nat} {w w1 : World} {vn vm vc : Value} (h : Shop2 F p ts sb w vn vm vc) (ho : Oth sb w w1) : Shop2 F p ts sb w1 vn vm vc := fun h0 => by
  obtain ⟨bn, on, cn, bk, ok, ck, bc, oc, cc, e1, e2, e3, h1⟩ := h h0
  refine ⟨bn, on, cn, bk, ok, ck, bc, oc, cc, e1, e2, e3, fun t ht => ?_⟩
  obtain ⟨A1, c1, A2, c2, A3, c3, h2⟩ := h1 t ht
  exact ⟨A1, c1, A2, c2, A3, c3, fun w' h' => h2 w' (ho.trans h')⟩
structure GoIn (F : Fld) (p : Prices) (T : Cs) (sb B base m : Nat) (vn vm vc : Value) (left : Cs) (ns : List Net) (n : Nat) (c : Int) (s : Sk) (bv : Value) (A : Option Addr) (cap : Nat) (w : World) : Prop where
  ok : left.ok
  cut : ∀ k, 100 ≤ k → k < 128 → left.has k = false
  sub : ∀ k ∈ left.all, k ∈ T.all
  lt : left.all.length < m
  c0 : 0 ≤ c
  c1 : c + 14100 * m ≤ 200000
  len : ns.length = n
  nl : n + m ≤ 20
  room : n ≤ cap
  empt : A = none → cap = 0
  tr : s.tries ≤ B
  bk : Blk w sb 81 (s4c vn vm vc (2 ^ T.all.length - 1) B bv s)
  best : Best base sb w bv s
  shop : Shop2 F p T.all sb w vn vm vc
  sl : ∀ w', Oth sb w w' → Sl w' 4 A n (flat Net.vals ns)
def RetGo (w : World) (base sb al B : Nat) (vn vm vc : Value) (q : Bool × Sk) (e : Ending) (w' : World) : Prop :=
  ∃ bv, e = .returned (.bool q.1) ∧ Oth sb w w' ∧ Blk w' sb 81 (s4c vn vm vc al B bv q.2) ∧ Best base sb w' bv q.2
section
variable {F : Fld} {p : Prices} {T : Cs} {sb B base m : Nat} {vn vm vc : Value}
theorem GoIn.first {left : Cs} {ns : List Net} {n : Nat} {c : Int} {s : Sk} {bv : Value} {A : Option Addr} {cap : Nat} {w : World} (h : GoIn F p T sb B base m vn vm vc left ns n c s bv A cap w) (hz : left ≠ Cs.z) :
    ∃ r, left.all = firstOf left :: r := by
  cases ha : left.all with
  | nil => exact absurd (all_nil h.ok h.cut ha) hz
  | cons k r => exact ⟨r, by rw [firstOf, ha]; rfl⟩
theorem GoIn.next {left : Cs} {ns : List Net} {n : Nat} {c : Int} {s : Sk} {bv : Value} {A : Option Addr} {cap : Nat} {w : World} (h : GoIn F p T sb B base (m + 1) vn vm vc left ns n c s bv A cap w) (hg : p.good = true) (hz : left ≠ Cs.z)
    {x : Net} (hx : x ∈ netsAt F (firstOf left)) {s' : Sk} {bv' : Value} {w1 v : World} (hO : Oth sb w w1) (hb : Blk w1 sb 81 (s4c vn vm vc (2 ^ T.all.length - 1) B bv' ⟨s'.tries + 1, s'.least, s'.best⟩)) (hbest : Best base sb w1 bv' s') (ht : s'.tries < B)
    {A' : Option Addr} {c' : Nat} (hrow : w1.ownsRow v.heap.size 65 4 (.slice A' (n + 1) c') (n + 1) (flat Net.vals ns ++ Net.vals x)) (hsb : sb < v.heap.size) (hc' : n + 1 ≤ c') (hA' : A' = none → c' = 0) :
    GoIn F p T sb B base m vn vm vc (left.without (netSet x)) (ns ++ [x]) (n + 1) (c + netCost p x) ⟨s'.tries + 1, s'.least, s'.best⟩ bv' A' c' w1 := by
  obtain ⟨r, hr⟩ := h.first hz
  have hm : firstOf left ∈ left.all := by rw [hr]; simp
  have hk := (mem_all.1 hm).1
  have hc := (costOk hg (Net.fits_plain (netsAt_fits hx))).k
  have hl := without_lt hm (s := netSet x) (by rw [netSet, pset_has _ hk]; exact netsAt_inside hx)
  have h1 := h.lt
  have h2 := h.c0
  have h3 := h.c1
  have h4 := h.nl
  have h5 := h.len
  refine ⟨Cs.without_ok _ _, without_cut _ _, fun k hk => ?_, by omega, by omega, by omega, by simp [h5], by omega, hc', hA', ht, hb, hbest, h.shop.oth hO, fun w' hw' => ?_⟩
  · rw [without_all] at hk
    exact h.sub k (List.mem_filter.1 hk).1
  · rw [flat_snoc]
    exact hw'.row_sl hrow hsb
end
end Go.Proofs.Ytjkclggdaafmaaa
