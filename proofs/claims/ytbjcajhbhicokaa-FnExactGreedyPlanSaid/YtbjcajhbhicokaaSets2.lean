/- Sets of cells: what is in them, the walks that look, cut, join and list. -/
import Derived.Test.YtbjcajhbhicokaaSets
import Derived.Test.YtbjcajhbhicokaaConf0
namespace Go.Proofs.Ytbjcajhbhicokaa
set_option linter.unusedSimpArgs false
set_option linter.unusedVariables false
open Go.RowKit
attribute [local go_sem] cell?_mk frozen?_mk

theorem and_bit (a n : Nat) (ha : a < 18446744073709551616) : bits .and .u64 ((a : Int) / 2 ^ n) 1 = if a.testBit n = true then 1 else 0 := by
  have h1 : ((a : Int) / 2 ^ n) = ((a / 2 ^ n : Nat) : Int) := by simp
  have h2 : a / 2 ^ n < 18446744073709551616 := Nat.lt_of_le_of_lt (Nat.div_le_self _ _) ha
  have h3 := bits_and_u64_nat (a / 2 ^ n) 1 h2 (by decide)
  rw [h1]
  rw [show ((1 : Nat) : Int) = 1 from rfl] at h3
  rw [h3, Nat.and_one_is_mod, Nat.testBit_eq_decide_div_mod_eq]
  generalize a / 2 ^ n = m
  by_cases h : m % 2 = 1
  · rw [h]; simp
  · have : m % 2 = 0 := by omega
    rw [this]; simp
def Cs.ks : List IntKind := [.u64, .u64]
theorem bounds_u64 {n : Int} (h : (Lit.int .u64 n).wf = true) : 0 ≤ n ∧ n ≤ 18446744073709551615 := by
  simpa [Lit.wf, IntKind.min, IntKind.max, IntKind.bits, IntKind.signed] using h
theorem Cs.of_conf (cs : List Value) (h : Conf Cs.ks cs) : ∃ c : Cs, c.ok ∧ c.vals = cs := by
  obtain ⟨a, r, rfl, w0, h⟩ := h.cons
  obtain ⟨b, r, rfl, w1, h⟩ := h.cons
  obtain rfl := h.nil_eq
  have h0 := bounds_u64 w0
  have h1 := bounds_u64 w1
  refine ⟨⟨a.toNat, b.toNat⟩, ⟨by show a.toNat < _; omega, by show b.toNat < _; omega⟩, ?_⟩
  show [Value.int .u64 (a.toNat : Int), Value.int .u64 (b.toNat : Int)] = _
  rw [Int.toNat_of_nonneg h0.1, Int.toNat_of_nonneg h1.1]
set_option maxRecDepth 100000 in
set_option maxHeartbeats 1000000 in
theorem HasCell_any (c : Cs) (hc : c.ok) (k : Nat) (hk : k < 100) (w : World) :
    Calls Try.prog 146 #[.agg c.cells, .int .i64 k] w fun e w' => e = .returned (.bool (c.has k)) ∧ Mem w w' [] := by
  have M := Lib.hid (Mem.start w)
  have i0 : (0 : Int) ≤ (k : Int) := by omega
  have v0 : IntKind.i64.wrap 0 = 0 := by decide
  have v1 : IntKind.i64.wrap 1 = 1 := by decide
  have hin : inB (k : Int) 0 99 = true := inB_iff.2 ⟨i0, by omega⟩
  have HIN := Lib.hid hin
  clear hin
  by_cases h : k < 64
  · have hq : (k : Int) / 64 = 0 := by omega
    have hr : (k : Int).tmod 64 = k := by rw [Int.tmod_eq_emod_of_nonneg i0]; omega
    have hm : min k 64 = k := by omega
    have hu : IntKind.u64.wrap (k : Int) = k := IntWalk.u64_in _ (by omega)
    have hb1 := and_bit c.lo k hc.l
    have hh : c.has k = c.lo.testBit k := by rw [Cs.has, if_pos h]
    have HH := Lib.hid hh
    clear hh h
    cases ht : c.lo.testBit k <;>
    · have HT := Lib.hid ht
      rw [ht] at hb1
      simp only [if_true, Bool.false_eq_true, if_false] at hb1
      clear ht
      go_enter Try.func146, Try.ntmps146
      go_wp2_with (first
        | ((with_reducible refine gate_dst (N := 2) rfl ?_); go_must (refine M.out.ev_new rfl (by first | (go_simp; done) | (go_simp; rfl)) ?_); intro g2 w2 m; simp only [List.cons_append, List.nil_append] at m; have M := Lib.hid m; clear m)
        | (go_at_call 92; go_must (refine (within_any _ _ _ _).mono ?_); rintro e w_ ⟨rfl, rfl⟩; rw [HIN.out]; have c0 := M.out.cell (j := 0) (v := .int .u64 c.lo) 0 rfl rfl)
        )
      go_ret
      exact ⟨ret_bool (by rw [HH.out, HT.out]), M.out.take 0⟩
  · obtain ⟨j, hj⟩ : ∃ j, k = 64 + j := ⟨k - 64, by omega⟩
    have hq : (k : Int) / 64 = 1 := by omega
    have hr : (k : Int).tmod 64 = (j : Int) := by rw [Int.tmod_eq_emod_of_nonneg i0]; omega
    have j0 : (0 : Int) ≤ (j : Int) := by omega
    have hm : min j 64 = j := by omega
    have hu : IntKind.u64.wrap (j : Int) = j := IntWalk.u64_in _ (by omega)
    have hb1 := and_bit c.hi j hc.h
    have hh : c.has k = c.hi.testBit j := by rw [Cs.has, if_neg h, hj, Nat.add_sub_cancel_left]
    have HH := Lib.hid hh
    clear hh h hj
    cases ht : c.hi.testBit j <;>
    · have HT := Lib.hid ht
      rw [ht] at hb1
      simp only [if_true, Bool.false_eq_true, if_false] at hb1
      clear ht
      go_enter Try.func146, Try.ntmps146
      go_wp2_with (first
        | ((with_reducible refine gate_dst (N := 2) rfl ?_); go_must (refine M.out.ev_new rfl (by first | (go_simp; done) | (go_simp; rfl)) ?_); intro g2 w2 m; simp only [List.cons_append, List.nil_append] at m; have M := Lib.hid m; clear m)
        | (go_at_call 92; go_must (refine (within_any _ _ _ _).mono ?_); rintro e w_ ⟨rfl, rfl⟩; rw [HIN.out]; have c0 := M.out.cell (j := 1) (v := .int .u64 c.hi) 0 rfl rfl)
        )
      go_ret
      exact ⟨ret_bool (by rw [HH.out, HT.out]), M.out.take 0⟩
def Cs.cut (c : Cs) : Cs := ⟨c.lo, c.hi &&& 68719476735⟩
def Cs.both (a b : Cs) : Cs := Cs.cut ⟨a.lo &&& b.lo, a.hi &&& b.hi⟩
theorem and64 {a b : Nat} (ha : a < 18446744073709551616) : a &&& b < 18446744073709551616 := Nat.lt_of_le_of_lt Nat.and_le_left ha
theorem Cs.cut_ok {c : Cs} (h : c.ok) : c.cut.ok := ⟨h.l, and64 h.h⟩
theorem Cs.both_ok {a b : Cs} (h : a.ok) : (a.both b).ok := Cs.cut_ok ⟨and64 h.l, and64 h.h⟩
theorem Cs.cut_has (c : Cs) {k : Nat} (hk : k < 100) : c.cut.has k = c.has k := by
  unfold Cs.has Cs.cut
  split
  · rfl
  · rw [Nat.testBit_and, show (68719476735 : Nat) = 2 ^ 36 - 1 by decide, Nat.testBit_two_pow_sub_one, decide_eq_true (by omega), Bool.and_true]
theorem Cs.both_has (a b : Cs) {k : Nat} (hk : k < 100) : (a.both b).has k = (a.has k && b.has k) := by
  rw [Cs.both, Cs.cut_has _ hk]
  unfold Cs.has
  split
  · rw [Nat.testBit_and]
  · rw [Nat.testBit_and]
theorem Cs.put_has (c : Cs) (n : Nat) {k : Nat} : (c.put n).has k = (c.has k || decide (n = k)) := by
  unfold Cs.put Cs.has
  by_cases h1 : n < 64 <;> by_cases h2 : k < 64
  · rw [if_pos h1, if_pos h2, if_pos h2, Nat.testBit_or, Nat.testBit_two_pow]
  · rw [if_pos h1, if_neg h2, if_neg h2, decide_eq_false (by omega), Bool.or_false]
  · rw [if_neg h1, if_pos h2, if_pos h2, decide_eq_false (by omega), Bool.or_false]
  · rw [if_neg h1, if_neg h2, if_neg h2, Nat.testBit_or, Nat.testBit_two_pow]
    congr 1
    apply decide_eq_decide.2
    omega
theorem setOf_has (ks : List Nat) (k : Nat) : (setOf ks).has k = ks.contains k := by
  have key : ∀ (ks : List Nat) (c : Cs), (ks.foldl Cs.put c).has k = (c.has k || ks.contains k) := by
    intro ks
    induction ks with
    | nil => intro c; simp
    | cons n r ih =>
      intro c
      rw [List.foldl_cons, ih, Cs.put_has, List.contains_cons, Bool.or_assoc]
      congr 2
      simp [eq_comm, Bool.beq_eq_decide_eq]
  rw [setOf, key]
  have : Cs.z.has k = false := by unfold Cs.has Cs.z; split <;> simp
  rw [this, Bool.false_or]
/-- The numbers of a set below a number. -/
def Cs.below (c : Cs) (n : Nat) : List Nat := (List.range n).filter c.has
def Cs.all (c : Cs) : List Nat := c.below 100
theorem Cs.below_succ (c : Cs) (n : Nat) : c.below (n + 1) = c.below n ++ if c.has n then [n] else [] := by
  simp only [Cs.below, List.range_succ, List.filter_append]
  congr 1
  cases h : c.has n <;> simp [h]
theorem Cs.below_len (c : Cs) (n : Nat) : (c.below n).length ≤ n := by
  have := List.length_filter_le c.has (List.range n)
  rwa [List.length_range] at this
end Go.Proofs.Ytbjcajhbhicokaa
