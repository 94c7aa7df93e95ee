/- Sets of cells told by what holds for their cells; nets: what they cover. -/
import Derived.Test.YtifacledmmpnkaaDoorSets3
import Derived.Test.YtifacledmmpnkaaDoorNet
namespace Go.Proofs.YtifacledmmpnkaaDoor
set_option linter.unusedSimpArgs false
set_option linter.unusedVariables false
open Go.RowKit

/-- The cells below 100 for which something holds. -/
def pset (p : Nat → Bool) : Cs := setOf ((List.range 100).filter p)
theorem pset_ok (p : Nat → Bool) : (pset p).ok := setOf_ok _ fun k hk => by
  have := List.mem_range.1 (List.mem_filter.1 hk).1
  omega
theorem pset_has (p : Nat → Bool) {k : Nat} (hk : k < 100) : (pset p).has k = p k := by
  rw [pset, setOf_has, Bool.eq_iff_iff, List.contains_iff_mem, List.mem_filter, List.mem_range]
  exact ⟨fun h => h.2, fun h => ⟨hk, h⟩⟩
theorem pset_small (p : Nat → Bool) {k : Nat} (h1 : 100 ≤ k) : (pset p).has k = false :=
  setOf_small (fun j hj => List.mem_range.1 (List.mem_filter.1 hj).1) h1
/-- A set with no cells beyond 99 is told by its cells. -/
theorem pset_of {c : Cs} (hc : c.ok) (hs : ∀ k, 100 ≤ k → k < 128 → c.has k = false) {p : Nat → Bool} (h : ∀ k, k < 100 → c.has k = p k) : c = pset p :=
  Cs.ext_has hc (pset_ok p) fun k hk => by
    rcases Nat.lt_or_ge k 100 with h1 | h1
    · rw [h k h1, pset_has p h1]
    · rw [hs k h1 hk, pset_small p h1]
theorem pset_congr {p q : Nat → Bool} (h : ∀ k, k < 100 → p k = q k) : pset p = pset q :=
  pset_of (pset_ok p) (fun k h1 _ => pset_small p h1) fun k hk => by rw [pset_has p hk, h k hk]
theorem pset_false : pset (fun _ => false) = Cs.z := by
  unfold pset
  rw [List.filter_eq_nil_iff.2 (fun _ _ => by simp)]
  rfl
theorem pset_z {p : Nat → Bool} : pset p = Cs.z ↔ ∀ k, k < 100 → p k = false := by
  constructor
  · intro h k hk
    rw [← pset_has p hk, h]
    unfold Cs.has Cs.z
    split <;> simp
  · intro h
    rw [pset_congr (q := fun _ => false) h, pset_false]
def Cs.or (a b : Cs) : Cs := ⟨a.lo ||| b.lo, a.hi ||| b.hi⟩
def Cs.and (a b : Cs) : Cs := ⟨a.lo &&& b.lo, a.hi &&& b.hi⟩
def Cs.less (a b : Cs) : Cs := ⟨andn a.lo b.lo, andn a.hi b.hi⟩
theorem Cs.or_ok {a b : Cs} (ha : a.ok) (hb : b.ok) : (a.or b).ok := ⟨or64 ha.l hb.l, or64 ha.h hb.h⟩
theorem Cs.and_ok {a b : Cs} (ha : a.ok) : (a.and b).ok := ⟨and64 ha.l, and64 ha.h⟩
theorem Cs.less_ok (a b : Cs) : (a.less b).ok := ⟨andn_lt _ _, andn_lt _ _⟩
theorem Cs.or_has (a b : Cs) (k : Nat) : (a.or b).has k = (a.has k || b.has k) := by
  unfold Cs.has Cs.or
  split <;> rw [Nat.testBit_or]
theorem Cs.and_has (a b : Cs) (k : Nat) : (a.and b).has k = (a.has k && b.has k) := by
  unfold Cs.has Cs.and
  split <;> rw [Nat.testBit_and]
theorem Cs.less_has (a b : Cs) {k : Nat} (hk : k < 128) : (a.less b).has k = (a.has k && !b.has k) := by
  unfold Cs.has Cs.less
  split
  · rename_i h; exact andn_bit _ _ h
  · exact andn_bit _ _ (by omega)
theorem pset_cut (p : Nat → Bool) : (pset p).cut = pset p :=
  pset_of (Cs.cut_ok (pset_ok p)) (fun k h1 h2 => Cs.cut_small _ h1 h2) fun k hk => by rw [Cs.cut_has _ hk, pset_has p hk]
/-- Any set, cut to the cells below 100. -/
theorem cut_pset {c : Cs} (hc : c.ok) : c.cut = pset c.has :=
  pset_of (Cs.cut_ok hc) (fun k h1 h2 => Cs.cut_small _ h1 h2) fun k hk => by rw [Cs.cut_has _ hk]
theorem pset_or (p q : Nat → Bool) : (pset p).or (pset q) = pset fun k => p k || q k :=
  pset_of (Cs.or_ok (pset_ok p) (pset_ok q)) (fun k h1 _ => by rw [Cs.or_has, pset_small p h1, pset_small q h1]; rfl) fun k hk => by rw [Cs.or_has, pset_has p hk, pset_has q hk]
theorem pset_and (p : Nat → Bool) (c : Cs) : (pset p).and c = pset fun k => p k && c.has k :=
  pset_of (Cs.and_ok (pset_ok p)) (fun k h1 _ => by rw [Cs.and_has, pset_small p h1]; rfl) fun k hk => by rw [Cs.and_has, pset_has p hk]
theorem and_pset {c : Cs} (hc : c.ok) (p : Nat → Bool) : c.and (pset p) = pset fun k => c.has k && p k :=
  pset_of (Cs.and_ok hc) (fun k h1 _ => by rw [Cs.and_has, pset_small p h1, Bool.and_false]) fun k hk => by rw [Cs.and_has, pset_has p hk]
theorem pset_less (p : Nat → Bool) (c : Cs) : (pset p).less c = pset fun k => p k && !c.has k :=
  pset_of (Cs.less_ok _ _) (fun k h1 h2 => by rw [Cs.less_has _ _ h2, pset_small p h1]; rfl) fun k hk => by rw [Cs.less_has _ _ (by omega), pset_has p hk]
theorem pset_without (p : Nat → Bool) (c : Cs) : (pset p).without c = pset fun k => p k && !c.has k := by
  show ((pset p).less c).cut = _
  rw [pset_less, pset_cut]
theorem pset_both (p : Nat → Bool) (c : Cs) : (pset p).both c = pset fun k => p k && c.has k := by
  show ((pset p).and c).cut = _
  rw [pset_and, pset_cut]
/-- A net as all its numbers must be. -/
def Net.plain (n : Net) : Bool := inB n.x 0 9 && (inB n.y 0 9 && (inB n.wide 1 10 && inB n.high 1 10))
theorem Net.plain_iff {n : Net} : n.plain = true ↔ (0 ≤ n.x ∧ n.x ≤ 9) ∧ (0 ≤ n.y ∧ n.y ≤ 9) ∧ (1 ≤ n.wide ∧ n.wide ≤ 10) ∧ (1 ≤ n.high ∧ n.high ≤ 10) := by
  simp only [Net.plain, Bool.and_eq_true, inB_iff]
def Net.inside (n : Net) (k : Nat) : Bool := inB ((k : Int) % 10) n.x (n.x + n.wide - 1) && inB ((k : Int) / 10) n.y (n.y + n.high - 1)
def netSet (n : Net) : Cs := pset n.inside
/-- Whether a net is within a field, and no tree under it. -/
def Net.fits (F : Fld) (n : Net) : Bool := n.plain && (decide (n.x + n.wide ≤ F.wide) && (decide (n.y + n.high ≤ F.high) && (List.range 100).all fun k => !(n.inside k && (F.kind k == 3))))
theorem Net.fits_plain {F : Fld} {n : Net} (h : n.fits F = true) : n.plain = true := by
  rw [Net.fits, Bool.and_eq_true] at h
  exact h.1
theorem Net.inside_has {F : Fld} {n : Net} (hp : n.plain = true) (h1 : n.x + n.wide ≤ F.wide) (h2 : n.y + n.high ≤ F.high) {k : Nat} (hk : k < 100) (h : n.inside k = true) : F.has k = true := by
  obtain ⟨⟨a0, a1⟩, ⟨b0, b1⟩, _, _⟩ := Net.plain_iff.1 hp
  rw [Net.inside, Bool.and_eq_true, inB_iff, inB_iff] at h
  exact Fld.has_iff.2 ⟨by omega, by omega, by omega⟩
def netsOk (F : Fld) (xs : List Net) : Bool := F.valid && xs.all (·.fits F)
/-- What nets cover, and cover twice. -/
def covP (xs : List Net) (k : Nat) : Bool := decide (1 ≤ xs.countP (·.inside k))
def twP (xs : List Net) (k : Nat) : Bool := decide (2 ≤ xs.countP (·.inside k))
theorem covP_snoc (xs : List Net) (n : Net) (k : Nat) : covP (xs ++ [n]) k = (covP xs k || n.inside k) := by
  unfold covP
  rw [List.countP_append, List.countP_singleton, Bool.eq_iff_iff, Bool.or_eq_true, decide_eq_true_eq, decide_eq_true_eq]
  generalize xs.countP (fun x => x.inside k) = c
  cases n.inside k <;> simp
theorem twP_snoc (xs : List Net) (n : Net) (k : Nat) : twP (xs ++ [n]) k = (twP xs k || (covP xs k && n.inside k)) := by
  unfold twP covP
  rw [List.countP_append, List.countP_singleton, Bool.eq_iff_iff, Bool.or_eq_true, Bool.and_eq_true, decide_eq_true_eq, decide_eq_true_eq, decide_eq_true_eq]
  generalize xs.countP (fun x => x.inside k) = c
  cases n.inside k
  · simp
  · simp; omega
theorem cov_step (xs : List Net) (n : Net) : (pset (covP xs)).or (netSet n) = pset (covP (xs ++ [n])) := by
  rw [netSet, pset_or]
  exact pset_congr fun k _ => (covP_snoc xs n k).symm
theorem tw_step (xs : List Net) (n : Net) : (pset (twP xs)).or ((pset (covP xs)).and (netSet n)) = pset (twP (xs ++ [n])) := by
  rw [netSet, pset_and, pset_or]
  exact pset_congr fun k hk => by rw [twP_snoc, pset_has _ hk]
end Go.Proofs.YtifacledmmpnkaaDoor
