/- Texts of a proof, laid together: LookP, GoP, CheapP. -/
import Derived.Test.YtjkclggdaafmaaaZC13
import Derived.Carry
namespace Go.Proofs.Ytjkclggdaafmaaa
set_option linter.unusedSimpArgs false
set_option linter.unusedVariables false
open Go.RowKit

/-- A net with its cells and its cost. -/
def covVals (p : Prices) (x : Net) : List Value := [.int .i8 x.x, .int .i8 x.y, .int .i8 x.wide, .int .i8 x.high, .int .u64 (netSet x).lo, .int .u64 (netSet x).hi, .int .i64 (netCost p x)]
theorem covVals_len (p : Prices) (x : Net) : (covVals p x).length = 7 := rfl
theorem covVals_one (p : Prices) (x : Net) : (covVals p x).toArray.all (·.oneCell') = true := by simp [covVals, Value.oneCell']
theorem cov_net (p : Prices) (x : Net) : ∀ j v, (Net.vals x)[j]? = some v → (covVals p x).toArray[0 + j]? = some v := fun j v h => by
  have hj := (List.getElem?_eq_some_iff.1 h).1
  rw [Net.vl] at hj
  match j, hj with
  | 0, _ => exact h
  | 1, _ => exact h
  | 2, _ => exact h
  | 3, _ => exact h
theorem cov_set (p : Prices) (x : Net) : ∀ j v, [Value.int .u64 (netSet x).lo, Value.int .u64 (netSet x).hi][j]? = some v → (covVals p x).toArray[4 + j]? = some v := fun j v h => by
  have hj := (List.getElem?_eq_some_iff.1 h).1
  match j, hj with
  | 0, _ => exact h
  | 1, _ => exact h

/-- The cells of a shopper. -/
def shc (bm B : Nat) (bv : Value) (s : Sk) : Array Value := #[.map (some bm), .int .i64 s.tries, .int .i64 B, bv, .int .i64 s.least]
def Best (base sb : Nat) (w : World) (bv : Value) (s : Sk) : Prop := bv.ownBlock ≠ some sb ∧ w.ownsRow base 65 4 bv s.best.length (flat Net.vals s.best)
theorem Best.oth {base sb : Nat} {w w1 : World} {bv : Value} {s : Sk} (h : Best base sb w bv s) (ho : Oth sb w w1) : Best base sb w1 bv s := ⟨h.1, ho.row h.2 h.1⟩
/-- What the shopper has for each target: its nets. -/
def Shop (F : Fld) (p : Prices) (T : Cs) (bm sb : Nat) (w : World) : Prop :=
  ∀ k ∈ T.all, ∃ A c, ∀ w', Oth sb w w' → (Instr.lookup 91 (.map (some bm)) (.int .i64 k) false).run Try.prog w' = .ok (.slice A (netsAt F k).length c) w' ∧
    Sl w' 7 A (netsAt F k).length (flat (covVals p) (netsAt F k))
theorem Shop.oth {F : Fld} {p : Prices} {T : Cs} {bm sb : Nat} {w w1 : World} (h : Shop F p T bm sb w) (ho : Oth sb w w1) : Shop F p T bm sb w1 := fun k hk => by
  obtain ⟨A, c, h1⟩ := h k hk
  exact ⟨A, c, fun w' h' => h1 w' (ho.trans h')⟩
structure LkIn (F : Fld) (p : Prices) (T : Cs) (sb bm B base m : Nat) (left : Cs) (ns : List Net) (n : Nat) (c : Int) (s : Sk) (bv : Value) (A : Option Addr) (cap : Nat) (w : World) : Prop where
  ok : left.ok
  cut : ∀ k, 100 ≤ k → k < 128 → left.has k = false
  sub : ∀ k ∈ left.all, k ∈ T.all
  lt : left.all.length < m
  c0 : 0 ≤ c
  c1 : c + 14100 * m ≤ 200000
  len : ns.length = n
  nl : n + m ≤ 20
  room : n ≤ cap
  empt : A = none → cap = 0
  tr : s.tries ≤ B
  bk : Blk w sb 93 (shc bm B bv s)
  best : Best base sb w bv s
  shop : Shop F p T bm sb w
  sl : ∀ w', Oth sb w w' → Sl w' 4 A n (flat Net.vals ns)
def RetLook (w : World) (base sb bm B : Nat) (q : Bool × Sk) (e : Ending) (w' : World) : Prop :=
  ∃ bv, e = .returned (.bool q.1) ∧ Oth sb w w' ∧ Blk w' sb 93 (shc bm B bv q.2) ∧ Best base sb w' bv q.2
section
variable {F : Fld} {p : Prices} {T : Cs} {sb bm B base m : Nat}
theorem seek_tries : ∀ (m : Nat) (left : Cs) (ns : List Net) (c : Int) (s : Sk), s.tries ≤ B → (seek F p B m left ns c s).2.tries ≤ B
  | 0, _, _, _, _, h => h
  | m + 1, left, ns, c, s, h => by
    rw [seek]
    split
    · exact h
    · have key : ∀ (r : List Net) (s : Sk), s.tries ≤ B → (skIn p B (seek F p B m) left ns c r s).2.tries ≤ B := by
        intro r
        induction r with
        | nil => exact fun s h => h
        | cons x r ih =>
          intro s h
          rw [skIn]
          split
          · exact ih s h
          · split
            · exact h
            · have h9 := seek_tries m (left.without (netSet x)) (ns ++ [x]) (c + netCost p x) ⟨s.tries + 1, s.least, s.best⟩ (by show s.tries + 1 ≤ B; omega)
              split
              · exact ih _ h9
              · exact h9
      exact key _ s h
theorem skIn_skip {rec : Cs → List Net → Int → Sk → Bool × Sk} {left : Cs} {ns : List Net} {c : Int} {x : Net} {r : List Net} {s : Sk} (h1 : 0 ≤ s.least) (h2 : s.least ≤ c + netCost p x) :
    skIn p B rec left ns c (x :: r) s = skIn p B rec left ns c r s := by rw [skIn, if_pos ⟨h1, h2⟩]
theorem skIn_out {rec : Cs → List Net → Int → Sk → Bool × Sk} {left : Cs} {ns : List Net} {c : Int} {x : Net} {r : List Net} {s : Sk} (h1 : ¬ (0 ≤ s.least ∧ s.least ≤ c + netCost p x)) (h2 : s.tries = B) :
    skIn p B rec left ns c (x :: r) s = (false, s) := by rw [skIn, if_neg h1, if_pos h2]
theorem skIn_in {rec : Cs → List Net → Int → Sk → Bool × Sk} {left : Cs} {ns : List Net} {c : Int} {x : Net} {r : List Net} {s : Sk} (h1 : ¬ (0 ≤ s.least ∧ s.least ≤ c + netCost p x)) (h2 : ¬ s.tries = B)
    {q : Bool × Sk} (hq : rec (left.without (netSet x)) (ns ++ [x]) (c + netCost p x) ⟨s.tries + 1, s.least, s.best⟩ = q) :
    skIn p B rec left ns c (x :: r) s = if q.1 = true then skIn p B rec left ns c r q.2 else q := by
  subst hq
  rw [skIn, if_neg h1, if_neg h2]
theorem LkIn.first {left : Cs} {ns : List Net} {n : Nat} {c : Int} {s : Sk} {bv : Value} {A : Option Addr} {cap : Nat} {w : World} (h : LkIn F p T sb bm B base m left ns n c s bv A cap w) (hz : left ≠ Cs.z) :
    ∃ r, left.all = firstOf left :: r := by
  cases ha : left.all with
  | nil => exact absurd (all_nil h.ok h.cut ha) hz
  | cons k r => exact ⟨r, by rw [firstOf, ha]; rfl⟩
theorem LkIn.next {left : Cs} {ns : List Net} {n : Nat} {c : Int} {s : Sk} {bv : Value} {A : Option Addr} {cap : Nat} {w : World} (h : LkIn F p T sb bm B base (m + 1) left ns n c s bv A cap w) (hg : p.good = true) (hz : left ≠ Cs.z)
    {x : Net} (hx : x ∈ netsAt F (firstOf left)) {s' : Sk} {bv' : Value} {w1 v : World} (hO : Oth sb w w1) (hb : Blk w1 sb 93 (shc bm B bv' ⟨s'.tries + 1, s'.least, s'.best⟩)) (hbest : Best base sb w1 bv' s') (ht : s'.tries < B)
    {A' : Option Addr} {c' : Nat} (hrow : w1.ownsRow v.heap.size 65 4 (.slice A' (n + 1) c') (n + 1) (flat Net.vals ns ++ Net.vals x)) (hsb : sb < v.heap.size) (hc' : n + 1 ≤ c') (hA' : A' = none → c' = 0) :
    LkIn F p T sb bm B base m (left.without (netSet x)) (ns ++ [x]) (n + 1) (c + netCost p x) ⟨s'.tries + 1, s'.least, s'.best⟩ bv' A' c' w1 := by
  obtain ⟨r, hr⟩ := h.first hz
  have hm : firstOf left ∈ left.all := by rw [hr]; simp
  have hk := (mem_all.1 hm).1
  have hc := (costOk hg (Net.fits_plain (netsAt_fits hx))).k
  have hl := without_lt hm (s := netSet x) (by rw [netSet, pset_has _ hk]; exact netsAt_inside hx)
  have h1 := h.lt
  have h2 := h.c0
  have h3 := h.c1
  have h4 := h.nl
  have h5 := h.len
  refine ⟨Cs.without_ok _ _, without_cut _ _, fun k hk => ?_, by omega, by omega, by omega, by simp [h5], by omega, hc', hA', ht, hb, hbest, h.shop.oth hO, fun w' hw' => ?_⟩
  · rw [without_all] at hk
    exact h.sub k (List.mem_filter.1 hk).1
  · rw [flat_snoc]
    exact hw'.row_sl hrow hsb
end
end Go.Proofs.Ytjkclggdaafmaaa
namespace Go.Proofs.Ytjkclggdaafmaaa
set_option linter.unusedSimpArgs false
set_option linter.unusedVariables false
open Go.RowKit

def bitsOf (f : Nat → Bool) : Nat → Nat
  | 0 => 0
  | m + 1 => if f m = true then bitsOf f m ||| 2 ^ m else bitsOf f m
theorem bitsOf_bit (f : Nat → Bool) (j : Nat) : ∀ m, (bitsOf f m).testBit j = (decide (j < m) && f j)
  | 0 => by simp [bitsOf]
  | m + 1 => by
    rw [bitsOf]
    split
    · rename_i h
      rw [Nat.testBit_or, bitsOf_bit f j m, Nat.testBit_two_pow]
      by_cases e : m = j
      · subst e
        simp [h]
      · rw [decide_eq_false e, Bool.or_false, show decide (j < m) = decide (j < m + 1) by rw [decide_eq_decide]; omega]
    · rename_i h
      rw [bitsOf_bit f j m]
      by_cases e : m = j
      · subst e
        simp [h]
      · rw [show decide (j < m) = decide (j < m + 1) by rw [decide_eq_decide]; omega]
theorem bitsOf_lt (f : Nat → Bool) : ∀ m, bitsOf f m < 2 ^ m
  | 0 => by simp [bitsOf]
  | m + 1 => by
    have h := bitsOf_lt f m
    have h2 : 2 ^ m < 2 ^ (m + 1) := Nat.pow_lt_pow_right (by omega) (by omega)
    rw [bitsOf]
    split
    · exact Nat.or_lt_two_pow (by omega) h2
    · omega
theorem bitsOf_u16 (f : Nat → Bool) {m : Nat} (hm : m ≤ 12) : bitsOf f m < 4096 := Nat.lt_of_lt_of_le (bitsOf_lt f m) (Nat.pow_le_pow_right (n := 2) (by omega) hm)
def maskN (ts : List Nat) (x : Net) : Nat := bitsOf (fun j => x.inside (ts.getD j 0)) ts.length
def covN (ts : List Nat) (left : Cs) : Nat := bitsOf (fun j => !left.has (ts.getD j 0)) ts.length
theorem covN_or {ts : List Nat} (h : ∀ k ∈ ts, k < 100) (left : Cs) (x : Net) : covN ts left ||| maskN ts x = covN ts (left.without (netSet x)) := by
  apply Nat.eq_of_testBit_eq
  intro j
  rw [Nat.testBit_or, covN, maskN, covN, bitsOf_bit, bitsOf_bit, bitsOf_bit]
  by_cases hj : j < ts.length
  · have hk : ts.getD j 0 < 100 := h _ (by rw [List.getD_eq_getElem?_getD, List.getElem?_eq_getElem hj]; exact List.getElem_mem hj)
    rw [Cs.without_has _ _ hk, netSet, pset_has _ hk, decide_eq_true hj]
    cases left.has (ts.getD j 0) <;> cases x.inside (ts.getD j 0) <;> rfl
  · simp [decide_eq_false hj]
theorem all_filter {left T : Cs} (h : ∀ k ∈ left.all, k ∈ T.all) : left.all = T.all.filter left.has := by
  unfold Cs.all Cs.below
  rw [List.filter_filter]
  refine List.filter_congr fun k hk => ?_
  cases hl : left.has k
  · simp
  · have := (List.mem_filter.1 (h k (List.mem_filter.2 ⟨hk, hl⟩))).2
    simp [this]
theorem covN_full {T left : Cs} (h : ∀ k ∈ left.all, k ∈ T.all) : covN T.all left = 2 ^ T.all.length - 1 ↔ left.all = [] := by
  constructor
  · intro he
    rw [all_filter h, List.filter_eq_nil_iff]
    intro k hk hl
    obtain ⟨j, hj, rfl⟩ := List.getElem_of_mem hk
    have h1 : (covN T.all left).testBit j = true := by rw [he, Nat.testBit_two_pow_sub_one, decide_eq_true hj]
    rw [covN, bitsOf_bit, decide_eq_true hj, List.getD_eq_getElem?_getD, List.getElem?_eq_getElem hj, Bool.true_and] at h1
    rw [show (some T.all[j]).getD 0 = T.all[j] from rfl, hl] at h1
    cases h1
  · intro hn
    apply Nat.eq_of_testBit_eq
    intro j
    rw [covN, bitsOf_bit, Nat.testBit_two_pow_sub_one]
    by_cases hj : j < T.all.length
    · rw [decide_eq_true hj, Bool.true_and, List.getD_eq_getElem?_getD, List.getElem?_eq_getElem hj]
      rw [all_filter h, List.filter_eq_nil_iff] at hn
      have := hn _ (List.getElem_mem hj)
      simpa using this
    · simp [decide_eq_false hj]
theorem filter_first {p : Nat → Bool} {k : Nat} {r : List Nat} : ∀ {ts : List Nat}, ts.filter p = k :: r → ∃ t, ts[t]? = some k ∧ (∀ j, j < t → p (ts.getD j 0) = false) ∧ p k = true
  | [], h => by cases h
  | a :: ts, h => by
    rw [List.filter_cons] at h
    split at h
    · rename_i ha
      injection h with h1 h2
      subst h1
      exact ⟨0, rfl, fun j hj => absurd hj (Nat.not_lt_zero _), ha⟩
    · rename_i ha
      obtain ⟨t, h1, h2, h3⟩ := filter_first h
      refine ⟨t + 1, by simpa using h1, fun j hj => ?_, h3⟩
      cases j with
      | zero => simpa using ha
      | succ j => simpa using h2 j (by omega)
/-- The first target that is not covered: the first bit that is not set. -/
theorem covN_first {T left : Cs} (h : ∀ k ∈ left.all, k ∈ T.all) (hn : left.all ≠ []) : ∃ t, t < T.all.length ∧ T.all[t]? = some (firstOf left) ∧ (∀ j, j < t → covN T.all left / 2 ^ j % 2 = 1) ∧ covN T.all left / 2 ^ t % 2 = 0 := by
  cases ha : left.all with
  | nil => exact absurd ha hn
  | cons k r =>
    have hk : firstOf left = k := by rw [firstOf, ha]; rfl
    have hf := all_filter h
    rw [ha] at hf
    obtain ⟨t, h1, h2, h3⟩ := filter_first hf.symm
    have ht : t < T.all.length := (List.getElem?_eq_some_iff.1 h1).1
    refine ⟨t, ht, by rw [hk, h1], fun j hj => ?_, ?_⟩
    · have : (covN T.all left).testBit j = true := by rw [covN, bitsOf_bit, decide_eq_true (by omega : j < T.all.length), h2 j hj]; rfl
      rw [Nat.testBit_eq_decide_div_mod_eq] at this
      exact of_decide_eq_true this
    · have : (covN T.all left).testBit t = false := by rw [covN, bitsOf_bit, List.getD_eq_getElem?_getD, h1]; simp [h3]
      rw [Nat.testBit_eq_decide_div_mod_eq] at this
      have := of_decide_eq_false this
      omega
theorem covN_start {T : Cs} : covN T.all T.cut = 0 := by
  apply Nat.eq_of_testBit_eq
  intro j
  rw [covN, bitsOf_bit, Nat.zero_testBit]
  by_cases hj : j < T.all.length
  · rw [decide_eq_true hj, List.getD_eq_getElem?_getD, List.getElem?_eq_getElem hj]
    have := mem_all.1 (List.getElem_mem hj)
    show (true && !T.cut.has T.all[j]) = false
    rw [Cs.cut_has _ this.1, this.2]
    rfl
  · simp [decide_eq_false hj]

/-- The cells of the reference's search. -/
def s4c (vn vm vc : Value) (al B : Nat) (bv : Value) (s : Sk) : Array Value := #[vn, vm, vc, .int .u16 al, .int .i64 B, .int .i64 s.tries, bv, .int .i64 (if 0 ≤ s.least then s.least else 0), .bool (decide (0 ≤ s.least))]
def one16 (n : Nat) : List Value := [.int .u16 n]
def oneC (p : Prices) (x : Net) : List Value := [.int .i64 (netCost p x)]
def Shop2 (F : Fld) (p : Prices) (ts : List Nat) (sb : Nat) (w : World) (vn vm vc : Value) : Prop :=
  0 < ts.length → ∃ bn on cn bk ok ck bc oc cc, vn = .slice (some ⟨bn, on, none⟩) ts.length cn ∧ vm = .slice (some ⟨bk, ok, none⟩) ts.length ck ∧ vc = .slice (some ⟨bc, oc, none⟩) ts.length cc ∧
    ∀ t, ts[t]?.isSome = true → ∃ A1 c1 A2 c2 A3 c3, ∀ w', Oth sb w w' →
      w'.cell? ⟨bn, on + t, none⟩ = some (.slice A1 (netsAt F (ts.getD t 0)).length c1) ∧ w'.cell? ⟨bk, ok + t, none⟩ = some (.slice A2 (netsAt F (ts.getD t 0)).length c2) ∧ w'.cell? ⟨bc, oc + t, none⟩ = some (.slice A3 (netsAt F (ts.getD t 0)).length c3) ∧
      Sl w' 4 A1 (netsAt F (ts.getD t 0)).length (flat Net.vals (netsAt F (ts.getD t 0))) ∧ Sl w' 1 A2 (netsAt F (ts.getD t 0)).length (flat (fun x => one16 (maskN ts x)) (netsAt F (ts.getD t 0))) ∧
      Sl w' 1 A3 (netsAt F (ts.getD t 0)).length (flat (oneC p) (netsAt F (ts.getD t 0)))
theorem Shop2.oth {F : Fld} {p : Prices} {ts : List Nat} {sb : Nat} {w w1 : World} {vn vm vc : Value} (h : Shop2 F p ts sb w vn vm vc) (ho : Oth sb w w1) : Shop2 F p ts sb w1 vn vm vc := fun h0 => by
  obtain ⟨bn, on, cn, bk, ok, ck, bc, oc, cc, e1, e2, e3, h1⟩ := h h0
  refine ⟨bn, on, cn, bk, ok, ck, bc, oc, cc, e1, e2, e3, fun t ht => ?_⟩
  obtain ⟨A1, c1, A2, c2, A3, c3, h2⟩ := h1 t ht
  exact ⟨A1, c1, A2, c2, A3, c3, fun w' h' => h2 w' (ho.trans h')⟩
structure GoIn (F : Fld) (p : Prices) (T : Cs) (sb B base m : Nat) (vn vm vc : Value) (left : Cs) (ns : List Net) (n : Nat) (c : Int) (s : Sk) (bv : Value) (A : Option Addr) (cap : Nat) (w : World) : Prop where
  ok : left.ok
  cut : ∀ k, 100 ≤ k → k < 128 → left.has k = false
  sub : ∀ k ∈ left.all, k ∈ T.all
  lt : left.all.length < m
  c0 : 0 ≤ c
  c1 : c + 14100 * m ≤ 200000
  len : ns.length = n
  nl : n + m ≤ 20
  room : n ≤ cap
  empt : A = none → cap = 0
  tr : s.tries ≤ B
  bk : Blk w sb 81 (s4c vn vm vc (2 ^ T.all.length - 1) B bv s)
  best : Best base sb w bv s
  shop : Shop2 F p T.all sb w vn vm vc
  sl : ∀ w', Oth sb w w' → Sl w' 4 A n (flat Net.vals ns)
def RetGo (w : World) (base sb al B : Nat) (vn vm vc : Value) (q : Bool × Sk) (e : Ending) (w' : World) : Prop :=
  ∃ bv, e = .returned (.bool q.1) ∧ Oth sb w w' ∧ Blk w' sb 81 (s4c vn vm vc al B bv q.2) ∧ Best base sb w' bv q.2
section
variable {F : Fld} {p : Prices} {T : Cs} {sb B base m : Nat} {vn vm vc : Value}
theorem GoIn.first {left : Cs} {ns : List Net} {n : Nat} {c : Int} {s : Sk} {bv : Value} {A : Option Addr} {cap : Nat} {w : World} (h : GoIn F p T sb B base m vn vm vc left ns n c s bv A cap w) (hz : left ≠ Cs.z) :
    ∃ r, left.all = firstOf left :: r := by
  cases ha : left.all with
  | nil => exact absurd (all_nil h.ok h.cut ha) hz
  | cons k r => exact ⟨r, by rw [firstOf, ha]; rfl⟩
theorem GoIn.next {left : Cs} {ns : List Net} {n : Nat} {c : Int} {s : Sk} {bv : Value} {A : Option Addr} {cap : Nat} {w : World} (h : GoIn F p T sb B base (m + 1) vn vm vc left ns n c s bv A cap w) (hg : p.good = true) (hz : left ≠ Cs.z)
    {x : Net} (hx : x ∈ netsAt F (firstOf left)) {s' : Sk} {bv' : Value} {w1 v : World} (hO : Oth sb w w1) (hb : Blk w1 sb 81 (s4c vn vm vc (2 ^ T.all.length - 1) B bv' ⟨s'.tries + 1, s'.least, s'.best⟩)) (hbest : Best base sb w1 bv' s') (ht : s'.tries < B)
    {A' : Option Addr} {c' : Nat} (hrow : w1.ownsRow v.heap.size 65 4 (.slice A' (n + 1) c') (n + 1) (flat Net.vals ns ++ Net.vals x)) (hsb : sb < v.heap.size) (hc' : n + 1 ≤ c') (hA' : A' = none → c' = 0) :
    GoIn F p T sb B base m vn vm vc (left.without (netSet x)) (ns ++ [x]) (n + 1) (c + netCost p x) ⟨s'.tries + 1, s'.least, s'.best⟩ bv' A' c' w1 := by
  obtain ⟨r, hr⟩ := h.first hz
  have hm : firstOf left ∈ left.all := by rw [hr]; simp
  have hk := (mem_all.1 hm).1
  have hc := (costOk hg (Net.fits_plain (netsAt_fits hx))).k
  have hl := without_lt hm (s := netSet x) (by rw [netSet, pset_has _ hk]; exact netsAt_inside hx)
  have h1 := h.lt
  have h2 := h.c0
  have h3 := h.c1
  have h4 := h.nl
  have h5 := h.len
  refine ⟨Cs.without_ok _ _, without_cut _ _, fun k hk => ?_, by omega, by omega, by omega, by simp [h5], by omega, hc', hA', ht, hb, hbest, h.shop.oth hO, fun w' hw' => ?_⟩
  · rw [without_all] at hk
    exact h.sub k (List.mem_filter.1 hk).1
  · rw [flat_snoc]
    exact hw'.row_sl hrow hsb
end
end Go.Proofs.Ytjkclggdaafmaaa
namespace Go.Proofs.Ytjkclggdaafmaaa
set_option linter.unusedSimpArgs false
set_option linter.unusedVariables false
open Go.RowKit

def chCode (F : Fld) (p : Prices) (c : Cs) (b : Int) : Int :=
  if prCode F p [] c ≠ 0 then prCode F p [] c else if inB b 0 20000 = false then 2 else if wood F c = true then 4 else if (seekAll F p c b.toNat).1 = true then 0 else 7
def chRes (F : Fld) (p : Prices) (c : Cs) (b : Int) : List Net := if chCode F p c b = 0 then (seekAll F p c b.toNat).2.best else []
def chLeast (F : Fld) (p : Prices) (c : Cs) (b : Int) : Int := if chCode F p c b = 0 then (seekAll F p c b.toNat).2.least else 0
section
variable {F : Fld} {p : Prices} {c : Cs} {b : Int} {B : Nat}
theorem ch_bad (h : prCode F p [] c ≠ 0) : chCode F p c b = prCode F p [] c ∧ chRes F p c b = [] ∧ chLeast F p c b = 0 := by
  have h1 : chCode F p c b = prCode F p [] c := by rw [chCode, if_pos h]
  exact ⟨h1, by rw [chRes, h1, if_neg h], by rw [chLeast, h1, if_neg h]⟩
theorem ch_range (h : prCode F p [] c = 0) (hb : inB b 0 20000 = false) : chCode F p c b = 2 ∧ chRes F p c b = [] ∧ chLeast F p c b = 0 := by
  have h1 : chCode F p c b = 2 := by rw [chCode, if_neg (by rw [h]; decide), if_pos hb]
  exact ⟨h1, by rw [chRes, h1, if_neg (by decide)], by rw [chLeast, h1, if_neg (by decide)]⟩
theorem ch_wood (h : prCode F p [] c = 0) (hb : inB b 0 20000 = true) (hw : wood F c = true) : chCode F p c b = 4 ∧ chRes F p c b = [] ∧ chLeast F p c b = 0 := by
  have h1 : chCode F p c b = 4 := by rw [chCode, if_neg (by rw [h]; decide), if_neg (by rw [hb]; decide), if_pos hw]
  exact ⟨h1, by rw [chRes, h1, if_neg (by decide)], by rw [chLeast, h1, if_neg (by decide)]⟩
theorem ch_end (h : prCode F p [] c = 0) (hb : inB (B : Int) 0 20000 = true) (hw : wood F c = false) : 
    ((seekAll F p c B).1 = true → chCode F p c B = 0 ∧ chRes F p c B = (seekAll F p c B).2.best ∧ chLeast F p c B = (seekAll F p c B).2.least) ∧
    ((seekAll F p c B).1 = false → chCode F p c B = 7 ∧ chRes F p c B = [] ∧ chLeast F p c B = 0) := by
  have e : (B : Int).toNat = B := by omega
  constructor <;> intro hq
  · have h1 : chCode F p c B = 0 := by rw [chCode, if_neg (by rw [h]; decide), if_neg (by rw [hb]; decide), if_neg (by rw [hw]; decide), e, if_pos hq]
    exact ⟨h1, by rw [chRes, h1, if_pos rfl, e], by rw [chLeast, h1, if_pos rfl, e]⟩
  · have h1 : chCode F p c B = 7 := by rw [chCode, if_neg (by rw [h]; decide), if_neg (by rw [hb]; decide), if_neg (by rw [hw]; decide), e, if_neg (by rw [hq]; decide)]
    exact ⟨h1, by rw [chRes, h1, if_neg (by decide)], by rw [chLeast, h1, if_neg (by decide)]⟩
theorem seek_best : ∀ (m : Nat) (left : Cs) (ns : List Net) (k : Int) (s : Sk), s.best.length ≤ 20 → ns.length + m ≤ 20 → (seek F p B m left ns k s).2.best.length ≤ 20
  | 0, _, _, _, _, h, _ => h
  | m + 1, left, ns, k, s, h, hn => by
    rw [seek]
    split
    · show ns.length ≤ 20
      omega
    · have key : ∀ (r : List Net) (s : Sk), s.best.length ≤ 20 → (skIn p B (seek F p B m) left ns k r s).2.best.length ≤ 20 := by
        intro r
        induction r with
        | nil => exact fun s h => h
        | cons x r ih =>
          intro s h
          rw [skIn]
          split
          · exact ih s h
          · split
            · exact h
            · have h9 := seek_best m (left.without (netSet x)) (ns ++ [x]) (k + netCost p x) ⟨s.tries + 1, s.least, s.best⟩ h (by simp; omega)
              split
              · exact ih _ h9
              · exact h9
      exact key _ s h
theorem chRes_len : (chRes F p c b).length ≤ 20 := by
  rw [chRes]
  split
  · exact seek_best _ _ _ _ _ (by simp [sk0]) (by simp)
  · simp
end
theorem all_nodup (c : Cs) : c.all.Nodup := by
  unfold Cs.all Cs.below
  exact List.nodup_range.filter _
theorem elem_cover : ElemOk Try.prog 95 99 (.agg #[.int .i8 0, .int .i8 0, .int .i8 0, .int .i8 0, .int .u64 0, .int .u64 0, .int .i64 0]) 7 32 := ⟨by kernel_rfl, by kernel_rfl, by kernel_rfl, by decide⟩
section
variable {P : Program} {ops : Array Oper} {rest : List Oper} {o : Oper} {a : Act} {w0 w : World} {Q : Exit → Act → World → Prop} {L : List Ent}
/-- A new map: the base is taken anew. -/
theorem Mem.ev_mkmap (M : Mem w0 w L) (k : TypeId) (hgd : o.guard = none) (t : TypeId) (ho : o.op = .makeMap t none)
    (h : ∀ g w1, Mem w0 w1 L → Mem w1 w1 [] → MapAt P k w1 g 0 (fun _ => .slice none 0 0) → w.heap.size ≤ g → g < w1.heap.size → wpList P ops Q rest (a.put o.dst (.map (some g))) w1) : wpList P ops Q (o :: rest) a w := by
  refine wpList_plain hgd fun K hK => ?_
  unfold Oper.wp
  simp only [execOp, ho, Option.map_none, Sem.run_bind, run_makeMap, Result.andThen_ok, Sem.run_pure]
  exact hK _ _ (h _ _ (M.kept ((Below.refl _ _).alloc (Nat.le_refl _) _)) (Mem.start _) (MapAt.made w P k) (Nat.le_refl _) (MapAt.made w P k).lt)
end
theorem below_oth {B g : Nat} {w a b : World} (h : Below B w a) (ho : Oth g a b) (hg : B ≤ g) (hB : B ≤ w.heap.size) : Below B w b := h.trans (ho.below hg (Nat.le_trans hB h.size))
theorem Mem.single {w0 w : World} {e : TypeId} {sz n : Nat} {v : Value} {cs : List Value} (hB : Below w0.heap.size w0 w) (h : w.ownsRow w0.heap.size e sz v n cs) : Mem w0 w [.row v e sz n cs] := by
  refine ⟨hB, fun i x hx => ?_, fun i j x y hij hx hy => ?_⟩
  · cases i with
    | zero => simp only [List.getElem?_cons_zero, Option.some.injEq] at hx; subst hx; exact h
    | succ i => simp at hx
  · cases i <;> cases j
    · exact absurd rfl hij
    · simp at hy
    · simp at hx
    · simp at hx
theorem Mem.anew {w0 w : World} (hB : Below w0.heap.size w0 w) : Mem w0 w [] := ⟨hB, fun i x hx => by simp at hx, fun i j x y _ hx => by simp at hx⟩
end Go.Proofs.Ytjkclggdaafmaaa
