/- Sets of cells: what is in them, the walks that look, cut, join and list. -/
import Derived.Test.YtifacledmmpnkaaDoorSets
import Derived.Test.YtifacledmmpnkaaDoorConf0
namespace Go.Proofs.YtifacledmmpnkaaDoor
set_option linter.unusedSimpArgs false
set_option linter.unusedVariables false
open Go.RowKit
attribute [local go_sem] cell?_mk frozen?_mk

theorem and_bit (a n : Nat) (ha : a < 18446744073709551616) : bits .and .u64 ((a : Int) / 2 ^ n) 1 = if a.testBit n = true then 1 else 0 := by
  have h1 : ((a : Int) / 2 ^ n) = ((a / 2 ^ n : Nat) : Int) := by simp
  have h2 : a / 2 ^ n < 18446744073709551616 := Nat.lt_of_le_of_lt (Nat.div_le_self _ _) ha
  have h3 := bits_and_u64_nat (a / 2 ^ n) 1 h2 (by decide)
  rw [h1]
  rw [show ((1 : Nat) : Int) = 1 from rfl] at h3
  rw [h3, Nat.and_one_is_mod, Nat.testBit_eq_decide_div_mod_eq]
  generalize a / 2 ^ n = m
  by_cases h : m % 2 = 1
  · rw [h]; simp
  · have : m % 2 = 0 := by omega
    rw [this]; simp
def Cs.ks : List IntKind := [.u64, .u64]
theorem bounds_u64 {n : Int} (h : (Lit.int .u64 n).wf = true) : 0 ≤ n ∧ n ≤ 18446744073709551615 := by
  simpa [Lit.wf, IntKind.min, IntKind.max, IntKind.bits, IntKind.signed] using h
theorem Cs.of_conf (cs : List Value) (h : Conf Cs.ks cs) : ∃ c : Cs, c.ok ∧ c.vals = cs := by
  obtain ⟨a, r, rfl, w0, h⟩ := h.cons
  obtain ⟨b, r, rfl, w1, h⟩ := h.cons
  obtain rfl := h.nil_eq
  have h0 := bounds_u64 w0
  have h1 := bounds_u64 w1
  refine ⟨⟨a.toNat, b.toNat⟩, ⟨by show a.toNat < _; omega, by show b.toNat < _; omega⟩, ?_⟩
  show [Value.int .u64 (a.toNat : Int), Value.int .u64 (b.toNat : Int)] = _
  rw [Int.toNat_of_nonneg h0.1, Int.toNat_of_nonneg h1.1]
def Cs.cut (c : Cs) : Cs := ⟨c.lo, c.hi &&& 68719476735⟩
def Cs.both (a b : Cs) : Cs := Cs.cut ⟨a.lo &&& b.lo, a.hi &&& b.hi⟩
theorem and64 {a b : Nat} (ha : a < 18446744073709551616) : a &&& b < 18446744073709551616 := Nat.lt_of_le_of_lt Nat.and_le_left ha
theorem Cs.cut_ok {c : Cs} (h : c.ok) : c.cut.ok := ⟨h.l, and64 h.h⟩
theorem Cs.both_ok {a b : Cs} (h : a.ok) : (a.both b).ok := Cs.cut_ok ⟨and64 h.l, and64 h.h⟩
theorem Cs.cut_has (c : Cs) {k : Nat} (hk : k < 100) : c.cut.has k = c.has k := by
  unfold Cs.has Cs.cut
  split
  · rfl
  · rw [Nat.testBit_and, show (68719476735 : Nat) = 2 ^ 36 - 1 by decide, Nat.testBit_two_pow_sub_one, decide_eq_true (by omega), Bool.and_true]
theorem Cs.both_has (a b : Cs) {k : Nat} (hk : k < 100) : (a.both b).has k = (a.has k && b.has k) := by
  rw [Cs.both, Cs.cut_has _ hk]
  unfold Cs.has
  split
  · rw [Nat.testBit_and]
  · rw [Nat.testBit_and]
theorem Cs.put_has (c : Cs) (n : Nat) {k : Nat} : (c.put n).has k = (c.has k || decide (n = k)) := by
  unfold Cs.put Cs.has
  by_cases h1 : n < 64 <;> by_cases h2 : k < 64
  · rw [if_pos h1, if_pos h2, if_pos h2, Nat.testBit_or, Nat.testBit_two_pow]
  · rw [if_pos h1, if_neg h2, if_neg h2, decide_eq_false (by omega), Bool.or_false]
  · rw [if_neg h1, if_pos h2, if_pos h2, decide_eq_false (by omega), Bool.or_false]
  · rw [if_neg h1, if_neg h2, if_neg h2, Nat.testBit_or, Nat.testBit_two_pow]
    congr 1
    apply decide_eq_decide.2
    omega
theorem setOf_has (ks : List Nat) (k : Nat) : (setOf ks).has k = ks.contains k := by
  have key : ∀ (ks : List Nat) (c : Cs), (ks.foldl Cs.put c).has k = (c.has k || ks.contains k) := by
    intro ks
    induction ks with
    | nil => intro c; simp
    | cons n r ih =>
      intro c
      rw [List.foldl_cons, ih, Cs.put_has, List.contains_cons, Bool.or_assoc]
      congr 2
      simp [eq_comm, Bool.beq_eq_decide_eq]
  rw [setOf, key]
  have : Cs.z.has k = false := by unfold Cs.has Cs.z; split <;> simp
  rw [this, Bool.false_or]
/-- The numbers of a set below a number. -/
def Cs.below (c : Cs) (n : Nat) : List Nat := (List.range n).filter c.has
def Cs.all (c : Cs) : List Nat := c.below 100
theorem Cs.below_succ (c : Cs) (n : Nat) : c.below (n + 1) = c.below n ++ if c.has n then [n] else [] := by
  simp only [Cs.below, List.range_succ, List.filter_append]
  congr 1
  cases h : c.has n <;> simp [h]
theorem Cs.below_len (c : Cs) (n : Nat) : (c.below n).length ≤ n := by
  have := List.length_filter_le c.has (List.range n)
  rwa [List.length_range] at this
end Go.Proofs.YtifacledmmpnkaaDoor
