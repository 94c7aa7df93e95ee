/- All nets that cover a cell, and the greedy choice among them: plain facts. -/
import Derived.Test.YtnddoiapilookaaTree
import Derived.Test.YtnddoiapilookaaUnder
namespace Go.Proofs.Ytnddoiapilookaa
set_option linter.unusedSimpArgs false
set_option linter.unusedVariables false
open Go.RowKit

theorem nets1_mem {F : Fld} {x y h w0 i : Nat} {n : Net} : n ∈ nets1 F x y h w0 i ↔ n.fits F = true ∧ ∃ a, a < i ∧ n = ⟨(x : Nat), (y : Nat), (w0 + a : Nat), (h : Nat)⟩ := by
  simp only [nets1, List.mem_filter, List.mem_map, List.mem_range]
  constructor
  · rintro ⟨⟨a, ha, rfl⟩, hf⟩
    exact ⟨hf, a, ha, rfl⟩
  · rintro ⟨hf, a, ha, rfl⟩
    exact ⟨⟨a, ha, rfl⟩, hf⟩
theorem nets4_mem {F : Fld} {r d W H y : Nat} {n : Net} : n ∈ nets4 F r d W H y ↔ n.fits F = true ∧ ∃ b a j i, b < y ∧ a < r + 1 ∧ j < H ∧ i < W ∧ n = ⟨(a : Nat), (b : Nat), (r + 1 - a + i : Nat), (d + 1 - b + j : Nat)⟩ := by
  simp only [nets4, nets3, nets2, List.mem_flatMap, List.mem_range, nets1_mem]
  constructor
  · rintro ⟨b, hb, a, ha, j, hj, hf, i, hi, rfl⟩
    exact ⟨hf, b, a, j, i, hb, ha, hj, hi, rfl⟩
  · rintro ⟨hf, b, a, j, i, hb, ha, hj, hi, rfl⟩
    exact ⟨b, hb, a, ha, j, hj, hf, i, hi, rfl⟩
theorem netsAt_fits {F : Fld} {k : Nat} {n : Net} (h : n ∈ netsAt F k) : n.fits F = true := (nets4_mem.1 h).1
theorem netsAt_inside {F : Fld} {k : Nat} {n : Net} (h : n ∈ netsAt F k) : n.inside k = true := by
  obtain ⟨_, b, a, j, i, hb, ha, hj, hi, rfl⟩ := nets4_mem.1 h
  simp only [Net.inside, Bool.and_eq_true, inB_iff]
  omega
theorem netsAt_ne {F : Fld} (hv : F.valid = true) {k : Nat} (hk : k < 100) (hh : F.has k = true) (ht : (F.kind k == 3) = false) : netsAt F k ≠ [] := by
  obtain ⟨⟨wl, wu⟩, ⟨hl, hu⟩⟩ := Fld.valid_size hv
  obtain ⟨h1, h2⟩ := has_size hk hh
  refine List.ne_nil_of_mem (a := (⟨(k % 10 : Nat), (k / 10 : Nat), (k % 10 + 1 - k % 10 + 0 : Nat), (k / 10 + 1 - k / 10 + 0 : Nat)⟩ : Net)) (nets4_mem.2 ⟨?_, k / 10, k % 10, 0, 0, by omega, by omega, by omega, by omega, rfl⟩)
  refine Net.fits_yes (Net.plain_iff.2 ?_) ?_ ?_ fun j hj => ?_
  · dsimp only; omega
  · dsimp only; omega
  · dsimp only; omega
  · rcases Nat.decEq j k with hjk | hjk
    · rw [Bool.and_eq_false_iff]
      left
      rw [← Bool.not_eq_true]
      simp only [Net.inside, Bool.and_eq_true, inB_iff]
      omega
    · rw [hjk, ht, Bool.and_false]
def lenOf : Value → Nat | .slice _ n _ => n | _ => 0
theorem costs_1 (p : Prices) (n : Net) : costs p [n] = netCost p n := by simp [costs]
theorem costs_nil (p : Prices) : costs p [] = 0 := rfl
def costN (p : Prices) (n : Net) : Int := costs p [n]
/-- How many targets a net covers. -/
def cnt (left : Cs) (n : Net) : Nat := ((netSet n).both left).all.length
theorem cnt_pos {left : Cs} {n : Net} {k : Nat} (hk : k ∈ left.all) (hn : n.inside k = true) : 0 < cnt left n := by
  obtain ⟨k1, k2⟩ := mem_all.1 hk
  refine List.length_pos_of_mem (a := k) (mem_all.2 ⟨k1, ?_⟩)
  rw [Cs.both_has _ _ k1, netSet, pset_has _ k1, hn, k2]
  rfl
theorem cnt_le (left : Cs) (n : Net) : cnt left n ≤ 100 := Cs.below_len _ 100
theorem cnt_and (left : Cs) (n : Net) : ((netSet n).and left).all.length = cnt left n := by
  unfold cnt
  rw [all_congr' (a := (netSet n).and left) (b := (netSet n).both left) fun k hk => by rw [Cs.and_has, Cs.both_has _ _ hk]]
/-- The best net so far: itself, its cost, how many targets it covers (0 if there is none yet). -/
def gStep (p : Prices) (left : Cs) (s : Net × Int × Nat) (n : Net) : Net × Int × Nat :=
  if (decide (s.2.2 = 0) || decide (netCost p n * (s.2.2 : Int) < s.2.1 * (cnt left n : Int))) = true then (n, netCost p n, cnt left n) else s
def g0 : Net × Int × Nat := (⟨0, 0, 0, 0⟩, 0, 0)
def gTo (p : Prices) (left : Cs) (ns : List Net) (i : Nat) : Net × Int × Nat := (ns.take i).foldl (gStep p left) g0
theorem gTo_succ (p : Prices) (left : Cs) {ns : List Net} {i : Nat} (h : i < ns.length) : gTo p left ns (i + 1) = gStep p left (gTo p left ns i) ns[i] := by
  rw [gTo, List.take_succ_eq_append_getElem h, List.foldl_append]
  rfl
theorem gTo_mem (p : Prices) (left : Cs) {ns : List Net} (hc : ∀ n ∈ ns, 0 < cnt left n) : ∀ i, i ≤ ns.length → (i = 0 ∧ gTo p left ns i = g0) ∨ (0 < i ∧ ∃ n ∈ ns, gTo p left ns i = (n, netCost p n, cnt left n))
  | 0, _ => .inl ⟨rfl, rfl⟩
  | i + 1, h => by
    refine .inr ⟨by omega, ?_⟩
    rw [gTo_succ p left (by omega), gStep]
    have hm : ns[i] ∈ ns := List.getElem_mem _
    split
    · exact ⟨_, hm, rfl⟩
    · rename_i hh
      rcases gTo_mem p left hc i (by omega) with ⟨_, h0⟩ | ⟨_, n, hn, he⟩
      · exact absurd (by rw [h0]; rfl) hh
      · exact ⟨n, hn, he⟩
def gBest (p : Prices) (left : Cs) (ns : List Net) : Net := (gTo p left ns ns.length).1
/-- Nets taken one after the other, for the least target that is left. -/
def greedyFrom (F : Fld) (p : Prices) : Nat → Cs → List Net → List Net
  | 0, _, out => out
  | m + 1, left, out => match left.all with
    | [] => out
    | k :: _ => greedyFrom F p m (left.without (netSet (gBest p left (netsAt F k)))) (out ++ [gBest p left (netsAt F k)])
theorem less_cut {left : Cs} (h : ∀ k, 100 ≤ k → k < 128 → left.has k = false) (s : Cs) : left.less s = left.without s := by
  refine Cs.ext_has (Cs.less_ok _ _) (Cs.without_ok _ _) fun k hk => ?_
  rw [Cs.less_has _ _ hk]
  by_cases h1 : k < 100
  · rw [Cs.without_has _ _ h1]
  · rw [h k (by omega) hk]
    unfold Cs.without
    rw [Cs.cut_small _ (by omega) hk]
    rfl
theorem without_all (left s : Cs) : (left.without s).all = left.all.filter fun k => !s.has k := by
  unfold Cs.all Cs.below
  rw [List.filter_filter]
  refine List.filter_congr fun k hk => ?_
  rw [Cs.without_has _ _ (List.mem_range.1 hk), Bool.and_comm]
theorem without_lt {left s : Cs} {k : Nat} (hk : k ∈ left.all) (hs : s.has k = true) : (left.without s).all.length < left.all.length := by
  rw [without_all]
  exact List.length_filter_lt_length_iff_exists.2 ⟨k, hk, by rw [hs]; simp⟩
theorem without_cut (left s : Cs) : ∀ k, 100 ≤ k → k < 128 → (left.without s).has k = false := fun k h1 h2 => by
  unfold Cs.without
  exact Cs.cut_small _ h1 h2
/-- What the greedy walk keeps. -/
structure GOk (F : Fld) (p : Prices) (R : List Net) (left : Cs) (out : List Net) : Prop where
  ok : left.ok
  cut : ∀ k, 100 ≤ k → k < 128 → left.has k = false
  has : ∀ k ∈ left.all, F.has k = true
  bare : ∀ k ∈ left.all, (F.kind k == 3) = false
  fits : ∀ n ∈ out, n.fits F = true
  len : out.length + left.all.length ≤ 12
  res : ∃ m, left.all.length ≤ m ∧ greedyFrom F p m left out = R
theorem z_all : Cs.z.all = [] := by decide
theorem all_nil {left : Cs} (ho : left.ok) (h : ∀ k, 100 ≤ k → k < 128 → left.has k = false) (h0 : left.all = []) : left = Cs.z := by
  refine Cs.ext_has ho Cs.z_ok fun k hk => ?_
  rw [show Cs.z.has k = false by unfold Cs.has Cs.z; split <;> simp]
  by_cases h1 : k < 100
  · rw [← Bool.not_eq_true]
    intro hh
    have : k ∈ left.all := mem_all.2 ⟨h1, hh⟩
    rw [h0] at this
    cases this
  · exact h k (by omega) hk
theorem GOk.stop {F : Fld} {p : Prices} {R out : List Net} (h : GOk F p R Cs.z out) : out = R := by
  obtain ⟨m, _, he⟩ := h.res
  cases m with
  | zero => exact he
  | succ m =>
    rw [greedyFrom] at he
    simp only [z_all] at he
    exact he
theorem GOk.go {F : Fld} (hv : F.valid = true) {p : Prices} {R out : List Net} {left : Cs} (h : GOk F p R left out) (hz : left ≠ Cs.z) :
    ∃ k r, left.all = k :: r ∧ k < 100 ∧ F.has k = true ∧ netsAt F k ≠ [] ∧ (∀ n ∈ netsAt F k, n.snug ∧ 0 < cnt left n) ∧ gBest p left (netsAt F k) ∈ netsAt F k ∧
      GOk F p R (left.without (netSet (gBest p left (netsAt F k)))) (out ++ [gBest p left (netsAt F k)]) := by
  cases ha : left.all with
  | nil => exact absurd (all_nil h.ok h.cut ha) hz
  | cons k r =>
    have hm : k ∈ left.all := by rw [ha]; simp
    have k1 := (mem_all.1 hm).1
    have hne := netsAt_ne hv k1 (h.has k hm) (h.bare k hm)
    have hc : ∀ n ∈ netsAt F k, 0 < cnt left n := fun n hn => cnt_pos hm (netsAt_inside hn)
    have hb : gBest p left (netsAt F k) ∈ netsAt F k := by
      rcases gTo_mem p left hc (netsAt F k).length (Nat.le_refl _) with ⟨h0, _⟩ | ⟨_, n, hn, he⟩
      · exact absurd (List.length_eq_zero_iff.1 h0) hne
      · rw [gBest, he]
        exact hn
    have hlt : (left.without (netSet (gBest p left (netsAt F k)))).all.length < left.all.length := without_lt hm (by rw [netSet, pset_has _ k1]; exact netsAt_inside hb)
    have hsub : ∀ j ∈ (left.without (netSet (gBest p left (netsAt F k)))).all, j ∈ left.all := fun j hj => by
      rw [without_all] at hj
      exact (List.mem_filter.1 hj).1
    refine ⟨k, r, rfl, k1, h.has k hm, hne, fun n hn => ⟨Net.snug_of hv (netsAt_fits hn), hc n hn⟩, hb, Cs.without_ok _ _, without_cut _ _, fun j hj => h.has j (hsub j hj), fun j hj => h.bare j (hsub j hj), fun n hn => ?_, ?_, ?_⟩
    · rcases List.mem_append.1 hn with hn | hn
      · exact h.fits n hn
      · simp only [List.mem_singleton] at hn
        subst hn
        exact netsAt_fits hb
    · have := h.len
      rw [List.length_append, List.length_singleton]
      omega
    · obtain ⟨m, hm1, he⟩ := h.res
      cases m with
      | zero => rw [ha] at hm1; simp at hm1
      | succ m =>
        rw [greedyFrom, ha] at he
        exact ⟨m, by omega, he⟩
def gRes (F : Fld) (p : Prices) (c : Cs) : List Net := if prCode F p [] c = 0 then (if wood F c = true then [] else greedyFrom F p 12 c.cut []) else []
def gCode (F : Fld) (p : Prices) (c : Cs) : Int := if prCode F p [] c = 0 then (if wood F c = true then 4 else 0) else prCode F p [] c
theorem GOk.start {F : Fld} {p : Prices} {c : Cs} (hc : c.ok) (h0 : ntCode F [] c = 0) (hw : wood F c = false) : GOk F p (greedyFrom F p 12 c.cut []) c.cut [] := by
  obtain ⟨_, _, h12, hin⟩ := ntCode_0 h0
  refine ⟨Cs.cut_ok hc, fun k h1 h2 => Cs.cut_small _ h1 h2, ?_, ?_, fun n hn => (by simp at hn), ?_, 12, ?_, rfl⟩
  · rw [cut_all]
    exact hin
  · rw [cut_all]
    intro k hk
    rw [wood, List.any_eq_false] at hw
    rw [← Bool.not_eq_true]
    exact hw k hk
  · rw [cut_all, List.length_nil]
    omega
  · rw [cut_all]
    exact h12
theorem greedyFrom_ok {F : Fld} (hv : F.valid = true) {p : Prices} : ∀ (m : Nat) (left : Cs) (out R : List Net), GOk F p R left out → left.all.length ≤ m → (∀ n ∈ R, n.fits F = true) ∧ R.length ≤ 12
  | 0, left, out, R, h, hm => by
    have := all_nil h.ok h.cut (List.length_eq_zero_iff.1 (by omega))
    subst this
    have := h.stop
    subst this
    have := h.len
    exact ⟨h.fits, by omega⟩
  | m + 1, left, out, R, h, hm => by
    by_cases hz : left = Cs.z
    · subst hz
      have := h.stop
      subst this
      have := h.len
      exact ⟨h.fits, by omega⟩
    · obtain ⟨k, r, ha, k1, _, _, hn, hb, h'⟩ := h.go hv hz
      have hm2 : k ∈ left.all := by rw [ha]; simp
      have := without_lt hm2 (s := netSet (gBest p left (netsAt F k))) (by rw [netSet, pset_has _ k1]; exact netsAt_inside hb)
      exact greedyFrom_ok hv m _ _ R h' (by omega)
theorem gRes_ok {F : Fld} {p : Prices} {c : Cs} (hc : c.ok) : (∀ n ∈ gRes F p c, n.fits F = true) ∧ (gRes F p c).length ≤ 12 := by
  unfold gRes
  split
  · rename_i h0
    split
    · simp
    · rename_i hw
      have h1 := (prCode_0 h0).2
      have := GOk.start (p := p) hc h1 (by simpa using hw)
      exact greedyFrom_ok (netsOk_iff.1 (ntCode_0 h1).1).1 12 _ _ _ this (by rw [cut_all]; exact (ntCode_0 h1).2.2.1)
  · simp
end Go.Proofs.Ytnddoiapilookaa
