/- Texts of a proof, laid together: Sets2, Sets3, Net. -/
import Derived.Test.YtjkclggdaafmaaaZC02
import Derived.Test.YtjkclggdaafmaaaZC00
import Derived.Test.YtjkclggdaafmaaaZC01
namespace Go.Proofs.Ytjkclggdaafmaaa
set_option linter.unusedSimpArgs false
set_option linter.unusedVariables false
open Go.RowKit
attribute [local go_sem] cell?_mk frozen?_mk

theorem and_bit (a n : Nat) (ha : a < 18446744073709551616) : bits .and .u64 ((a : Int) / 2 ^ n) 1 = if a.testBit n = true then 1 else 0 := by
  have h1 : ((a : Int) / 2 ^ n) = ((a / 2 ^ n : Nat) : Int) := by simp
  have h2 : a / 2 ^ n < 18446744073709551616 := Nat.lt_of_le_of_lt (Nat.div_le_self _ _) ha
  have h3 := bits_and_u64_nat (a / 2 ^ n) 1 h2 (by decide)
  rw [h1]
  rw [show ((1 : Nat) : Int) = 1 from rfl] at h3
  rw [h3, Nat.and_one_is_mod, Nat.testBit_eq_decide_div_mod_eq]
  generalize a / 2 ^ n = m
  by_cases h : m % 2 = 1
  · rw [h]; simp
  · have : m % 2 = 0 := by omega
    rw [this]; simp
def Cs.ks : List IntKind := [.u64, .u64]
theorem bounds_u64 {n : Int} (h : (Lit.int .u64 n).wf = true) : 0 ≤ n ∧ n ≤ 18446744073709551615 := by
  simpa [Lit.wf, IntKind.min, IntKind.max, IntKind.bits, IntKind.signed] using h
theorem Cs.of_conf (cs : List Value) (h : Conf Cs.ks cs) : ∃ c : Cs, c.ok ∧ c.vals = cs := by
  obtain ⟨a, r, rfl, w0, h⟩ := h.cons
  obtain ⟨b, r, rfl, w1, h⟩ := h.cons
  obtain rfl := h.nil_eq
  have h0 := bounds_u64 w0
  have h1 := bounds_u64 w1
  refine ⟨⟨a.toNat, b.toNat⟩, ⟨by show a.toNat < _; omega, by show b.toNat < _; omega⟩, ?_⟩
  show [Value.int .u64 (a.toNat : Int), Value.int .u64 (b.toNat : Int)] = _
  rw [Int.toNat_of_nonneg h0.1, Int.toNat_of_nonneg h1.1]
set_option maxRecDepth 100000 in
set_option maxHeartbeats 1000000 in
theorem HasCell_any (c : Cs) (hc : c.ok) (k : Nat) (hk : k < 100) (w : World) :
    Calls Try.prog 56 #[.agg c.cells, .int .i64 k] w fun e w' => e = .returned (.bool (c.has k)) ∧ Mem w w' [] := by
  have M := Lib.hid (Mem.start w)
  have i0 : (0 : Int) ≤ (k : Int) := by omega
  have v0 : IntKind.i64.wrap 0 = 0 := by decide
  have v1 : IntKind.i64.wrap 1 = 1 := by decide
  have hin : inB (k : Int) 0 99 = true := inB_iff.2 ⟨i0, by omega⟩
  have HIN := Lib.hid hin
  clear hin
  by_cases h : k < 64
  · have hq : (k : Int) / 64 = 0 := by omega
    have hr : (k : Int).tmod 64 = k := by rw [Int.tmod_eq_emod_of_nonneg i0]; omega
    have hm : min k 64 = k := by omega
    have hu : IntKind.u64.wrap (k : Int) = k := IntWalk.u64_in _ (by omega)
    have hb1 := and_bit c.lo k hc.l
    have hh : c.has k = c.lo.testBit k := by rw [Cs.has, if_pos h]
    have HH := Lib.hid hh
    clear hh h
    cases ht : c.lo.testBit k <;>
    · have HT := Lib.hid ht
      rw [ht] at hb1
      simp only [if_true, Bool.false_eq_true, if_false] at hb1
      clear ht
      go_enter Try.func56, Try.ntmps56
      go_wp2_with (first
        | ((with_reducible refine gate_dst (N := 2) rfl ?_); go_must (refine M.out.ev_new rfl (by first | (go_simp; done) | (go_simp; rfl)) ?_); intro g2 w2 m; simp only [List.cons_append, List.nil_append] at m; have M := Lib.hid m; clear m)
        | (go_at_call 42; go_must (refine (within_any _ _ _ _).mono ?_); rintro e w_ ⟨rfl, rfl⟩; rw [HIN.out]; have c0 := M.out.cell (j := 0) (v := .int .u64 c.lo) 0 rfl rfl)
        )
      go_ret
      exact ⟨ret_bool (by rw [HH.out, HT.out]), M.out.take 0⟩
  · obtain ⟨j, hj⟩ : ∃ j, k = 64 + j := ⟨k - 64, by omega⟩
    have hq : (k : Int) / 64 = 1 := by omega
    have hr : (k : Int).tmod 64 = (j : Int) := by rw [Int.tmod_eq_emod_of_nonneg i0]; omega
    have j0 : (0 : Int) ≤ (j : Int) := by omega
    have hm : min j 64 = j := by omega
    have hu : IntKind.u64.wrap (j : Int) = j := IntWalk.u64_in _ (by omega)
    have hb1 := and_bit c.hi j hc.h
    have hh : c.has k = c.hi.testBit j := by rw [Cs.has, if_neg h, hj, Nat.add_sub_cancel_left]
    have HH := Lib.hid hh
    clear hh h hj
    cases ht : c.hi.testBit j <;>
    · have HT := Lib.hid ht
      rw [ht] at hb1
      simp only [if_true, Bool.false_eq_true, if_false] at hb1
      clear ht
      go_enter Try.func56, Try.ntmps56
      go_wp2_with (first
        | ((with_reducible refine gate_dst (N := 2) rfl ?_); go_must (refine M.out.ev_new rfl (by first | (go_simp; done) | (go_simp; rfl)) ?_); intro g2 w2 m; simp only [List.cons_append, List.nil_append] at m; have M := Lib.hid m; clear m)
        | (go_at_call 42; go_must (refine (within_any _ _ _ _).mono ?_); rintro e w_ ⟨rfl, rfl⟩; rw [HIN.out]; have c0 := M.out.cell (j := 1) (v := .int .u64 c.hi) 0 rfl rfl)
        )
      go_ret
      exact ⟨ret_bool (by rw [HH.out, HT.out]), M.out.take 0⟩
set_option maxRecDepth 100000 in
set_option maxHeartbeats 1000000 in
theorem l01Has_any (b : Nat) {t : TypeId} (c : Cs) (hc : c.ok) (k : Nat) (hk : k < 100) (w : World) (hb : Blk w b t c.cells) :
    Calls Try.prog 71 #[.pointer (some ⟨b, 0, none⟩), .int .i64 k] w fun e w' => e = .returned (.bool (c.has k)) ∧ w = w' := by
  have i0 : (0 : Int) ≤ (k : Int) := by omega
  have v0 : IntKind.i64.wrap 0 = 0 := by decide
  have v1 : IntKind.i64.wrap 1 = 1 := by decide
  have hin : inB (k : Int) 0 99 = true := inB_iff.2 ⟨i0, by omega⟩
  have HIN := Lib.hid hin
  clear hin
  by_cases h : k < 64
  · have hq : (k : Int) / 64 = 0 := by omega
    have hr : (k : Int).tmod 64 = k := by rw [Int.tmod_eq_emod_of_nonneg i0]; omega
    have hm : min k 64 = k := by omega
    have hu : IntKind.u64.wrap (k : Int) = k := IntWalk.u64_in _ (by omega)
    have hb1 := and_bit c.lo k hc.l
    have hh : c.has k = c.lo.testBit k := by rw [Cs.has, if_pos h]
    have c0 := hb.cellv (i := 0) (v := .int .u64 c.lo) rfl
    have HH := Lib.hid hh
    clear hh h
    cases ht : c.lo.testBit k <;>
    · have HT := Lib.hid ht
      rw [ht] at hb1
      simp only [if_true, Bool.false_eq_true, if_false] at hb1
      clear ht
      go_enter Try.func71, Try.ntmps71
      go_wp2_with (first
        | (go_at_call 32; go_must (refine (l00In_any _ _ _ _).mono ?_); rintro e w_ ⟨rfl, rfl⟩; rw [HIN.out])
        )
      go_ret
      exact ⟨ret_bool (by rw [HH.out, HT.out]), rfl⟩
  · obtain ⟨j, hj⟩ : ∃ j, k = 64 + j := ⟨k - 64, by omega⟩
    have hq : (k : Int) / 64 = 1 := by omega
    have hr : (k : Int).tmod 64 = (j : Int) := by rw [Int.tmod_eq_emod_of_nonneg i0]; omega
    have j0 : (0 : Int) ≤ (j : Int) := by omega
    have hm : min j 64 = j := by omega
    have hu : IntKind.u64.wrap (j : Int) = j := IntWalk.u64_in _ (by omega)
    have hb1 := and_bit c.hi j hc.h
    have hh : c.has k = c.hi.testBit j := by rw [Cs.has, if_neg h, hj, Nat.add_sub_cancel_left]
    have c0 := hb.cellv (i := 1) (v := .int .u64 c.hi) rfl
    have HH := Lib.hid hh
    clear hh h hj
    cases ht : c.hi.testBit j <;>
    · have HT := Lib.hid ht
      rw [ht] at hb1
      simp only [if_true, Bool.false_eq_true, if_false] at hb1
      clear ht
      go_enter Try.func71, Try.ntmps71
      go_wp2_with (first
        | (go_at_call 32; go_must (refine (l00In_any _ _ _ _).mono ?_); rintro e w_ ⟨rfl, rfl⟩; rw [HIN.out])
        )
      go_ret
      exact ⟨ret_bool (by rw [HH.out, HT.out]), rfl⟩
def Cs.cut (c : Cs) : Cs := ⟨c.lo, c.hi &&& 68719476735⟩
def Cs.both (a b : Cs) : Cs := Cs.cut ⟨a.lo &&& b.lo, a.hi &&& b.hi⟩
theorem and64 {a b : Nat} (ha : a < 18446744073709551616) : a &&& b < 18446744073709551616 := Nat.lt_of_le_of_lt Nat.and_le_left ha
theorem Cs.cut_ok {c : Cs} (h : c.ok) : c.cut.ok := ⟨h.l, and64 h.h⟩
theorem Cs.both_ok {a b : Cs} (h : a.ok) : (a.both b).ok := Cs.cut_ok ⟨and64 h.l, and64 h.h⟩
theorem Cs.cut_has (c : Cs) {k : Nat} (hk : k < 100) : c.cut.has k = c.has k := by
  unfold Cs.has Cs.cut
  split
  · rfl
  · rw [Nat.testBit_and, show (68719476735 : Nat) = 2 ^ 36 - 1 by decide, Nat.testBit_two_pow_sub_one, decide_eq_true (by omega), Bool.and_true]
theorem Cs.both_has (a b : Cs) {k : Nat} (hk : k < 100) : (a.both b).has k = (a.has k && b.has k) := by
  rw [Cs.both, Cs.cut_has _ hk]
  unfold Cs.has
  split
  · rw [Nat.testBit_and]
  · rw [Nat.testBit_and]
theorem Cs.put_has (c : Cs) (n : Nat) {k : Nat} : (c.put n).has k = (c.has k || decide (n = k)) := by
  unfold Cs.put Cs.has
  by_cases h1 : n < 64 <;> by_cases h2 : k < 64
  · rw [if_pos h1, if_pos h2, if_pos h2, Nat.testBit_or, Nat.testBit_two_pow]
  · rw [if_pos h1, if_neg h2, if_neg h2, decide_eq_false (by omega), Bool.or_false]
  · rw [if_neg h1, if_pos h2, if_pos h2, decide_eq_false (by omega), Bool.or_false]
  · rw [if_neg h1, if_neg h2, if_neg h2, Nat.testBit_or, Nat.testBit_two_pow]
    congr 1
    apply decide_eq_decide.2
    omega
theorem setOf_has (ks : List Nat) (k : Nat) : (setOf ks).has k = ks.contains k := by
  have key : ∀ (ks : List Nat) (c : Cs), (ks.foldl Cs.put c).has k = (c.has k || ks.contains k) := by
    intro ks
    induction ks with
    | nil => intro c; simp
    | cons n r ih =>
      intro c
      rw [List.foldl_cons, ih, Cs.put_has, List.contains_cons, Bool.or_assoc]
      congr 2
      simp [eq_comm, Bool.beq_eq_decide_eq]
  rw [setOf, key]
  have : Cs.z.has k = false := by unfold Cs.has Cs.z; split <;> simp
  rw [this, Bool.false_or]
set_option maxRecDepth 100000 in
set_option maxHeartbeats 1000000 in
theorem cut_any (c : Cs) (hc : c.ok) (w : World) :
    Calls Try.prog 49 #[.agg c.cells] w fun e w' => e = .returned (.agg c.cut.cells) ∧ Mem w w' [] := by
  have M := Lib.hid (Mem.start w)
  have hb1 := bits_and_u64_nat c.hi 68719476735 hc.h (by decide)
  have O1 := Lib.hid (Cs.one c.cut)
  have q0 : c.cells[0]? = some (.int .u64 c.lo) := rfl
  have q1 : c.cells[1]? = some (.int .u64 c.hi) := rfl
  rw [show ((68719476735 : Nat) : Int) = 68719476735 from rfl] at hb1
  go_enter Try.func49, Try.ntmps49
  go_wp2_with (first
    | ((with_reducible refine gate_dst (N := 1) rfl ?_); go_must (refine M.out.ev_new rfl (by first | (go_simp; done) | (go_simp; rfl)) ?_); intro g1 w1 m; simp only [List.cons_append, List.nil_append] at m; have M := Lib.hid m; clear m)
    | ((with_reducible refine gate_dst (N := 2) rfl ?_); go_must (refine M.out.ev_new rfl (by first | (go_simp; done) | (go_simp; rfl)) ?_); intro g2 w2 m; simp only [List.cons_append, List.nil_append] at m; have M := Lib.hid m; clear m)
    | ((with_reducible refine gate_dst (N := 4) rfl ?_); go_must (refine M.out.ev_ld 0 _ _ rfl rfl rfl Try.underlying30 rfl rfl (by first | assumption | rfl) ?_))
    | ((with_reducible refine gate_dst (N := 6) rfl ?_); go_must (refine M.out.ev_ld 0 _ _ rfl rfl rfl Try.underlying30 rfl rfl (by first | assumption | rfl) ?_))
    | ((with_reducible refine gate_store (x := .tmp 2) rfl ?_); go_must (refine M.out.ev_stw 1 _ _ _ rfl rfl rfl rfl _ rfl (by first | rfl | (simp only [S1.out]; rfl) | (simp only [S1.out, S2.out]; rfl) | (simp only [S3.out]; rfl) | (simp only [S1.out, S2.out, S3.out]; rfl)) (by first | exact sz39 | (rw [S1.out]; exact sz39) | (rw [S2.out]; exact sz39) | (rw [S3.out]; exact sz39)) (by first | exact ints_one _ _ | exact Fld.one _ | exact O1.out | rfl | (simp [Value.oneCell']; done)) rfl ?_); intro wn m; simp only [List.set_cons_succ, List.set_cons_zero, List.setIfInBounds_toArray] at m; have M := Lib.hid m; clear m)
    )
  exact ret_cell rfl (M.out.blk 1 rfl) Try.underlying39 rfl sz39 rfl ⟨rfl, M.out.take 0⟩
set_option maxRecDepth 100000 in
set_option maxHeartbeats 1000000 in
theorem BothOf_any (a b : Cs) (ha : a.ok) (hb : b.ok) (w : World) :
    Calls Try.prog 78 #[.agg a.cells, .agg b.cells] w fun e w' => e = .returned (.agg (a.both b).cells) ∧ Mem w w' [] := by
  have M := Lib.hid (Mem.start w)
  have hb1 := bits_and_u64_nat a.lo b.lo ha.l hb.l
  have hb2 := bits_and_u64_nat a.hi b.hi ha.h hb.h
  have O1 := Lib.hid (Cs.one (a.both b))
  have q0 : a.cells[0]? = some (.int .u64 a.lo) := rfl
  have q1 : a.cells[1]? = some (.int .u64 a.hi) := rfl
  have q2 : b.cells[0]? = some (.int .u64 b.lo) := rfl
  have q3 : b.cells[1]? = some (.int .u64 b.hi) := rfl
  have CU := Lib.hid (fun w => cut_any ⟨a.lo &&& b.lo, a.hi &&& b.hi⟩ ⟨and64 ha.l, and64 ha.h⟩ w)
  go_enter Try.func78, Try.ntmps78
  go_wp2_with (first
    | ((with_reducible refine gate_dst (N := 2) rfl ?_); go_must (refine M.out.ev_new rfl (by first | (go_simp; done) | (go_simp; rfl)) ?_); intro g2 w2 m; simp only [List.cons_append, List.nil_append] at m; have M := Lib.hid m; clear m)
    | ((with_reducible refine gate_dst (N := 3) rfl ?_); go_must (refine M.out.ev_new rfl (by first | (go_simp; done) | (go_simp; rfl)) ?_); intro g3 w3 m; simp only [List.cons_append, List.nil_append] at m; have M := Lib.hid m; clear m)
    | ((with_reducible refine gate_dst (N := 4) rfl ?_); go_must (refine M.out.ev_new rfl (by first | (go_simp; done) | (go_simp; rfl)) ?_); intro g4 w4 m; simp only [List.cons_append, List.nil_append] at m; have M := Lib.hid m; clear m)
    | ((with_reducible refine gate_dst (N := 6) rfl ?_); go_must (refine M.out.ev_ld 0 _ _ rfl rfl rfl Try.underlying30 rfl rfl (by first | assumption | rfl) ?_))
    | ((with_reducible refine gate_dst (N := 8) rfl ?_); go_must (refine M.out.ev_ld 1 _ _ rfl rfl rfl Try.underlying30 rfl rfl (by first | assumption | rfl) ?_))
    | ((with_reducible refine gate_dst (N := 11) rfl ?_); go_must (refine M.out.ev_ld 0 _ _ rfl rfl rfl Try.underlying30 rfl rfl (by first | assumption | rfl) ?_))
    | ((with_reducible refine gate_dst (N := 13) rfl ?_); go_must (refine M.out.ev_ld 1 _ _ rfl rfl rfl Try.underlying30 rfl rfl (by first | assumption | rfl) ?_))
    | ((with_reducible refine gate_store (x := .tmp 4) rfl ?_); go_must (refine M.out.ev_stw 2 _ _ _ rfl rfl rfl rfl _ rfl (by first | rfl | (simp only [S1.out]; rfl) | (simp only [S1.out, S2.out]; rfl) | (simp only [S3.out]; rfl) | (simp only [S1.out, S2.out, S3.out]; rfl)) (by first | exact sz39 | (rw [S1.out]; exact sz39) | (rw [S2.out]; exact sz39) | (rw [S3.out]; exact sz39)) (by first | exact ints_one _ _ | exact Fld.one _ | exact O1.out | rfl | (simp [Value.oneCell']; done)) rfl ?_); intro wn m; simp only [List.set_cons_succ, List.set_cons_zero, List.setIfInBounds_toArray] at m; have M := Lib.hid m; clear m)
    | (go_at_call 49; go_must (refine (CU.out _).mono ?_); rintro e w_ ⟨rfl, N_⟩; have m := M.out.join N_; clear N_; simp only [List.cons_append, List.nil_append, List.append_nil] at m; have M := Lib.hid m; clear m)
    )
  exact ret_cell rfl (M.out.blk 2 rfl) Try.underlying39 rfl sz39 rfl ⟨rfl, M.out.take 0⟩
/-- The numbers of a set below a number. -/
def Cs.below (c : Cs) (n : Nat) : List Nat := (List.range n).filter c.has
def Cs.all (c : Cs) : List Nat := c.below 100
theorem Cs.below_succ (c : Cs) (n : Nat) : c.below (n + 1) = c.below n ++ if c.has n then [n] else [] := by
  simp only [Cs.below, List.range_succ, List.filter_append]
  congr 1
  cases h : c.has n <;> simp [h]
theorem Cs.below_len (c : Cs) (n : Nat) : (c.below n).length ≤ n := by
  have := List.length_filter_le c.has (List.range n)
  rwa [List.length_range] at this
set_option maxRecDepth 100000 in
set_option maxHeartbeats 1000000 in
theorem ListOf_any (c : Cs) (hc : c.ok) (w : World) :
    Calls Try.prog 44 #[.agg c.cells] w (RetRow w 2 1 c.all.length (flat one64 c.all)) := by
  have M := Lib.hid (Mem.start w)
  go_enter Try.func44, Try.ntmps44
  go_wp2_with (first
    | ((with_reducible refine gate_dst (N := 1) rfl ?_); go_must (refine M.out.ev_new rfl (by first | (go_simp; done) | (go_simp; rfl)) ?_); intro g1 w1 m; simp only [List.cons_append, List.nil_append] at m; have M := Lib.hid m; clear m)
    | ((with_reducible refine gate_dst (N := 9) rfl ?_); go_must (refine M.out.ev_ldw 0 _ _ rfl rfl rfl Try.underlying39 rfl (by first | exact sz39 | (rw [S1.out]; exact sz39) | (rw [S2.out]; exact sz39) | (rw [S3.out]; exact sz39)) rfl ?_))
    | ((with_reducible refine gate_dst (N := 5) rfl ?_); go_must (refine M.out.ev_bs0 elem_int64 rfl rfl ?_); intro g5 w5 m; simp only [List.cons_append, List.nil_append] at m; have M := Lib.hid m; clear m)
    )
  go_loopw [3, 6] (fun s v wr => ∃ k : Nat, k ≤ 100 ∧ v = .int .i64 k ∧ Mem w wr [.blk g1 39 c.cells, .row s 2 1 (c.below k).length (flat one64 (c.below k))])
    (fun _ v _ => 100 - (intOf v).toNat)
  case atStart => exact ⟨0, by omega, rfl, M.out⟩
  case round =>
    clear M
    obtain ⟨k, hk, rfl, m⟩ := hrel
    have M := Lib.hid m
    clear m
    by_cases hlt : k < 100
    · have hkl := c.below_len k
      cases hq : c.has k
      · have HQ := Lib.hid hq
        clear hq
        go_wp2_with (first
          | ((with_reducible refine gate_dst (N := 1) rfl ?_); go_must (refine M.out.ev_new rfl (by first | (go_simp; done) | (go_simp; rfl)) ?_); intro g1 w1 m; simp only [List.cons_append, List.nil_append] at m; have M := Lib.hid m; clear m)
          | ((with_reducible refine gate_dst (N := 9) rfl ?_); go_must (refine M.out.ev_ldw 0 _ _ rfl rfl rfl Try.underlying39 rfl (by first | exact sz39 | (rw [S1.out]; exact sz39) | (rw [S2.out]; exact sz39) | (rw [S3.out]; exact sz39)) rfl ?_))
          | (go_at_call 56; go_must (refine (HasCell_any c hc k hlt _).mono ?_); rintro e w_ ⟨rfl, N_⟩; have m := M.out.join N_; clear N_; simp only [List.cons_append, List.nil_append, List.append_nil] at m; have M := Lib.hid m; clear m; rw [HQ.out])
          )
        refine ⟨⟨k + 1, by omega, by go_num, ?_⟩, by simp [intOf]; omega⟩
        rw [c.below_succ, HQ.out]
        simpa using M.out
      · have HQ := Lib.hid hq
        clear hq
        go_wp2_with (first
          | ((with_reducible refine gate_dst (N := 1) rfl ?_); go_must (refine M.out.ev_new rfl (by first | (go_simp; done) | (go_simp; rfl)) ?_); intro g1 w1 m; simp only [List.cons_append, List.nil_append] at m; have M := Lib.hid m; clear m)
          | ((with_reducible refine gate_dst (N := 9) rfl ?_); go_must (refine M.out.ev_ldw 0 _ _ rfl rfl rfl Try.underlying39 rfl (by first | exact sz39 | (rw [S1.out]; exact sz39) | (rw [S2.out]; exact sz39) | (rw [S3.out]; exact sz39)) rfl ?_))
          | (go_at_call 56; go_must (refine (HasCell_any c hc k hlt _).mono ?_); rintro e w_ ⟨rfl, N_⟩; have m := M.out.join N_; clear N_; simp only [List.cons_append, List.nil_append, List.append_nil] at m; have M := Lib.hid m; clear m; rw [HQ.out])
          | ((with_reducible refine gate_dst (N := 14) rfl ?_); go_must (refine M.out.ev_bs1 elem_int64 rfl _ rfl #[.int .i64 k] rfl rfl (by decide) ?_); intro g14 w14 m; simp only [List.cons_append, List.nil_append] at m; have M := Lib.hid m; clear m)
          | ((with_reducible refine gate_dst (N := 15) rfl ?_); go_must (refine M.out.ev_append1 1 2 elem_int64 rfl _ _ rfl rfl rfl rfl rfl rfl (by simp [Value.oneCell']) (by omega) (by decide) ?_); intro v15 w15 m; simp only [List.set_cons_succ, List.set_cons_zero] at m; have M := Lib.hid m; clear m)
          )
        refine ⟨⟨k + 1, by omega, by go_num, ?_⟩, by simp [intOf]; omega⟩
        have m := M.out.take 2
        rw [c.below_succ, HQ.out]
        simpa [flat_append, flat, one64, nat64] using m
    · obtain rfl : k = 100 := by omega
      go_wp2
      obtain ⟨A, cc, rfl, hcc, _⟩ := M.out.row_slice 1 rfl
      go_ret
      exact ⟨A, cc, rfl, hcc, M.out.only [1] (K := [_]) rfl (by decide)⟩
set_option maxRecDepth 100000 in
set_option maxHeartbeats 1000000 in
theorem toCells_any (c : Cs) (w : World) :
    Calls Try.prog 8 #[.agg c.cells] w fun e w' => e = .returned (.agg c.cells) ∧ Below w.heap.size w w' := by
  have M := Lib.hid (Mem.start w)
  have O1 := Lib.hid (Cs.one c)
  go_enter Try.func8, Try.ntmps8
  go_wp2_with (first
    | ((with_reducible refine gate_dst (N := 1) rfl ?_); go_must (refine M.out.ev_new rfl (by first | (go_simp; done) | (go_simp; rfl)) ?_); intro g1 w1 m; simp only [List.cons_append, List.nil_append] at m; have M := Lib.hid m; clear m)
    | ((with_reducible refine gate_dst (N := 2) rfl ?_); go_must (refine M.out.ev_new rfl (by first | (go_simp; done) | (go_simp; rfl)) ?_); intro g2 w2 m; simp only [List.cons_append, List.nil_append] at m; have M := Lib.hid m; clear m)
    | ((with_reducible refine gate_dst (N := 3) rfl ?_); go_must (refine M.out.ev_new rfl (by first | (go_simp; done) | (go_simp; rfl)) ?_); intro g3 w3 m; simp only [List.cons_append, List.nil_append] at m; have M := Lib.hid m; clear m)
    | ((with_reducible refine gate_dst (N := 12) rfl ?_); go_must (refine M.out.ev_ld 0 _ _ rfl rfl rfl Try.underlying30 rfl rfl (by first | assumption | rfl) ?_))
    | ((with_reducible refine gate_store (x := .tmp 13) rfl ?_); go_must (refine M.out.ev_put 2 _ _ _ rfl rfl rfl rfl (.int _ _) rfl (by first | assumption | exact Fld.lt0 _ | exact Fld.lt1 _ | (simp; done) | (simp only [ints_size]; omega)) sz30 rfl rfl ?_); intro wn m; simp only [List.set_cons_succ, List.set_cons_zero, List.setIfInBounds_toArray] at m; have M := Lib.hid m; clear m)
    | ((with_reducible refine gate_dst (N := 14) rfl ?_); go_must (refine M.out.ev_ldw 2 _ _ rfl rfl rfl Try.underlying39 rfl (by first | exact sz39 | (rw [S1.out]; exact sz39) | (rw [S2.out]; exact sz39) | (rw [S3.out]; exact sz39)) rfl ?_))
    | ((with_reducible refine gate_store (x := .tmp 2) rfl ?_); go_must (refine M.out.ev_stw 1 _ _ _ rfl rfl rfl rfl _ rfl (by first | rfl | (simp only [S1.out]; rfl) | (simp only [S1.out, S2.out]; rfl) | (simp only [S3.out]; rfl) | (simp only [S1.out, S2.out, S3.out]; rfl)) (by first | exact sz39 | (rw [S1.out]; exact sz39) | (rw [S2.out]; exact sz39) | (rw [S3.out]; exact sz39)) (by first | exact ints_one _ _ | exact Fld.one _ | exact O1.out | rfl | (simp [Value.oneCell']; done)) rfl ?_); intro wn m; simp only [List.set_cons_succ, List.set_cons_zero, List.setIfInBounds_toArray] at m; have M := Lib.hid m; clear m)
    )
  go_loopw [4] (fun v wr => ∃ k : Nat, k ≤ 2 ∧ v = .int .i64 k ∧ Mem w wr [.blk g1 31 c.cells, .blk g2 39 Cs.z.cells, .blk g3 39 (match k with | 0 => Cs.z | 1 => ⟨c.lo, 0⟩ | _ => c).cells])
    (fun v _ => 2 - (intOf v).toNat)
  case atStart => exact ⟨0, by omega, rfl, M.out⟩
  case round =>
    clear M
    obtain ⟨k, hk, rfl, m⟩ := hrel
    rcases (show k = 0 ∨ k = 1 ∨ k = 2 by omega) with rfl | rfl | rfl
    · have M : Hid (Mem w wr [.blk g1 31 c.cells, .blk g2 39 Cs.z.cells, .blk g3 39 Cs.z.cells]) := Lib.hid m
      have hsz : 0 < Cs.z.cells.size := by rw [Cs.size]; omega
      clear m
      have x0 := M.out.cell (j := 0) (v := .int .u64 c.lo) 0 rfl rfl
      go_wp2_with (first
        | ((with_reducible refine gate_dst (N := 1) rfl ?_); go_must (refine M.out.ev_new rfl (by first | (go_simp; done) | (go_simp; rfl)) ?_); intro g1 w1 m; simp only [List.cons_append, List.nil_append] at m; have M := Lib.hid m; clear m)
        | ((with_reducible refine gate_dst (N := 2) rfl ?_); go_must (refine M.out.ev_new rfl (by first | (go_simp; done) | (go_simp; rfl)) ?_); intro g2 w2 m; simp only [List.cons_append, List.nil_append] at m; have M := Lib.hid m; clear m)
        | ((with_reducible refine gate_dst (N := 3) rfl ?_); go_must (refine M.out.ev_new rfl (by first | (go_simp; done) | (go_simp; rfl)) ?_); intro g3 w3 m; simp only [List.cons_append, List.nil_append] at m; have M := Lib.hid m; clear m)
        | ((with_reducible refine gate_dst (N := 12) rfl ?_); go_must (refine M.out.ev_ld 0 _ _ rfl rfl rfl Try.underlying30 rfl rfl (by first | assumption | rfl) ?_))
        | ((with_reducible refine gate_store (x := .tmp 13) rfl ?_); go_must (refine M.out.ev_put 2 _ _ _ rfl rfl rfl rfl (.int _ _) rfl (by first | assumption | exact Fld.lt0 _ | exact Fld.lt1 _ | (simp; done) | (simp only [ints_size]; omega)) sz30 rfl rfl ?_); intro wn m; simp only [List.set_cons_succ, List.set_cons_zero, List.setIfInBounds_toArray] at m; have M := Lib.hid m; clear m)
        | ((with_reducible refine gate_dst (N := 14) rfl ?_); go_must (refine M.out.ev_ldw 2 _ _ rfl rfl rfl Try.underlying39 rfl (by first | exact sz39 | (rw [S1.out]; exact sz39) | (rw [S2.out]; exact sz39) | (rw [S3.out]; exact sz39)) rfl ?_))
        | ((with_reducible refine gate_store (x := .tmp 2) rfl ?_); go_must (refine M.out.ev_stw 1 _ _ _ rfl rfl rfl rfl _ rfl (by first | rfl | (simp only [S1.out]; rfl) | (simp only [S1.out, S2.out]; rfl) | (simp only [S3.out]; rfl) | (simp only [S1.out, S2.out, S3.out]; rfl)) (by first | exact sz39 | (rw [S1.out]; exact sz39) | (rw [S2.out]; exact sz39) | (rw [S3.out]; exact sz39)) (by first | exact ints_one _ _ | exact Fld.one _ | exact O1.out | rfl | (simp [Value.oneCell']; done)) rfl ?_); intro wn m; simp only [List.set_cons_succ, List.set_cons_zero, List.setIfInBounds_toArray] at m; have M := Lib.hid m; clear m)
        )
      exact ⟨⟨1, by omega, rfl, M.out⟩, by simp [intOf]⟩
    · have M : Hid (Mem w wr [.blk g1 31 c.cells, .blk g2 39 Cs.z.cells, .blk g3 39 (Cs.mk c.lo 0).cells]) := Lib.hid m
      have hsz : 1 < (Cs.mk c.lo 0).cells.size := by rw [Cs.size]; omega
      clear m
      have x0 := M.out.cell (j := 1) (v := .int .u64 c.hi) 0 rfl rfl
      go_wp2_with (first
        | ((with_reducible refine gate_dst (N := 1) rfl ?_); go_must (refine M.out.ev_new rfl (by first | (go_simp; done) | (go_simp; rfl)) ?_); intro g1 w1 m; simp only [List.cons_append, List.nil_append] at m; have M := Lib.hid m; clear m)
        | ((with_reducible refine gate_dst (N := 2) rfl ?_); go_must (refine M.out.ev_new rfl (by first | (go_simp; done) | (go_simp; rfl)) ?_); intro g2 w2 m; simp only [List.cons_append, List.nil_append] at m; have M := Lib.hid m; clear m)
        | ((with_reducible refine gate_dst (N := 3) rfl ?_); go_must (refine M.out.ev_new rfl (by first | (go_simp; done) | (go_simp; rfl)) ?_); intro g3 w3 m; simp only [List.cons_append, List.nil_append] at m; have M := Lib.hid m; clear m)
        | ((with_reducible refine gate_dst (N := 12) rfl ?_); go_must (refine M.out.ev_ld 0 _ _ rfl rfl rfl Try.underlying30 rfl rfl (by first | assumption | rfl) ?_))
        | ((with_reducible refine gate_store (x := .tmp 13) rfl ?_); go_must (refine M.out.ev_put 2 _ _ _ rfl rfl rfl rfl (.int _ _) rfl (by first | assumption | exact Fld.lt0 _ | exact Fld.lt1 _ | (simp; done) | (simp only [ints_size]; omega)) sz30 rfl rfl ?_); intro wn m; simp only [List.set_cons_succ, List.set_cons_zero, List.setIfInBounds_toArray] at m; have M := Lib.hid m; clear m)
        | ((with_reducible refine gate_dst (N := 14) rfl ?_); go_must (refine M.out.ev_ldw 2 _ _ rfl rfl rfl Try.underlying39 rfl (by first | exact sz39 | (rw [S1.out]; exact sz39) | (rw [S2.out]; exact sz39) | (rw [S3.out]; exact sz39)) rfl ?_))
        | ((with_reducible refine gate_store (x := .tmp 2) rfl ?_); go_must (refine M.out.ev_stw 1 _ _ _ rfl rfl rfl rfl _ rfl (by first | rfl | (simp only [S1.out]; rfl) | (simp only [S1.out, S2.out]; rfl) | (simp only [S3.out]; rfl) | (simp only [S1.out, S2.out, S3.out]; rfl)) (by first | exact sz39 | (rw [S1.out]; exact sz39) | (rw [S2.out]; exact sz39) | (rw [S3.out]; exact sz39)) (by first | exact ints_one _ _ | exact Fld.one _ | exact O1.out | rfl | (simp [Value.oneCell']; done)) rfl ?_); intro wn m; simp only [List.set_cons_succ, List.set_cons_zero, List.setIfInBounds_toArray] at m; have M := Lib.hid m; clear m)
        )
      exact ⟨⟨2, by omega, rfl, M.out⟩, by simp [intOf]⟩
    · have M : Hid (Mem w wr [.blk g1 31 c.cells, .blk g2 39 Cs.z.cells, .blk g3 39 c.cells]) := Lib.hid m
      have hsz : 0 < c.cells.size := by rw [Cs.size]; omega
      clear m
      go_wp2_with (first
        | ((with_reducible refine gate_dst (N := 1) rfl ?_); go_must (refine M.out.ev_new rfl (by first | (go_simp; done) | (go_simp; rfl)) ?_); intro g1 w1 m; simp only [List.cons_append, List.nil_append] at m; have M := Lib.hid m; clear m)
        | ((with_reducible refine gate_dst (N := 2) rfl ?_); go_must (refine M.out.ev_new rfl (by first | (go_simp; done) | (go_simp; rfl)) ?_); intro g2 w2 m; simp only [List.cons_append, List.nil_append] at m; have M := Lib.hid m; clear m)
        | ((with_reducible refine gate_dst (N := 3) rfl ?_); go_must (refine M.out.ev_new rfl (by first | (go_simp; done) | (go_simp; rfl)) ?_); intro g3 w3 m; simp only [List.cons_append, List.nil_append] at m; have M := Lib.hid m; clear m)
        | ((with_reducible refine gate_dst (N := 12) rfl ?_); go_must (refine M.out.ev_ld 0 _ _ rfl rfl rfl Try.underlying30 rfl rfl (by first | assumption | rfl) ?_))
        | ((with_reducible refine gate_store (x := .tmp 13) rfl ?_); go_must (refine M.out.ev_put 2 _ _ _ rfl rfl rfl rfl (.int _ _) rfl (by first | assumption | exact Fld.lt0 _ | exact Fld.lt1 _ | (simp; done) | (simp only [ints_size]; omega)) sz30 rfl rfl ?_); intro wn m; simp only [List.set_cons_succ, List.set_cons_zero, List.setIfInBounds_toArray] at m; have M := Lib.hid m; clear m)
        | ((with_reducible refine gate_dst (N := 14) rfl ?_); go_must (refine M.out.ev_ldw 2 _ _ rfl rfl rfl Try.underlying39 rfl (by first | exact sz39 | (rw [S1.out]; exact sz39) | (rw [S2.out]; exact sz39) | (rw [S3.out]; exact sz39)) rfl ?_))
        | ((with_reducible refine gate_store (x := .tmp 2) rfl ?_); go_must (refine M.out.ev_stw 1 _ _ _ rfl rfl rfl rfl _ rfl (by first | rfl | (simp only [S1.out]; rfl) | (simp only [S1.out, S2.out]; rfl) | (simp only [S3.out]; rfl) | (simp only [S1.out, S2.out, S3.out]; rfl)) (by first | exact sz39 | (rw [S1.out]; exact sz39) | (rw [S2.out]; exact sz39) | (rw [S3.out]; exact sz39)) (by first | exact ints_one _ _ | exact Fld.one _ | exact O1.out | rfl | (simp [Value.oneCell']; done)) rfl ?_); intro wn m; simp only [List.set_cons_succ, List.set_cons_zero, List.setIfInBounds_toArray] at m; have M := Lib.hid m; clear m)
        )
      exact ret_cell rfl (M.out.blk 1 rfl) Try.underlying39 rfl sz39 rfl ⟨rfl, M.out.below⟩
end Go.Proofs.Ytjkclggdaafmaaa
namespace Go.Proofs.Ytjkclggdaafmaaa
set_option linter.unusedSimpArgs false
set_option linter.unusedVariables false
open Go.RowKit
attribute [local go_sem] cell?_mk frozen?_mk

def andn (a b : Nat) : Nat := (BitVec.ofNat 64 a &&& ~~~BitVec.ofNat 64 b).toNat
theorem andn_lt (a b : Nat) : andn a b < 18446744073709551616 := (BitVec.ofNat 64 a &&& ~~~BitVec.ofNat 64 b).isLt
theorem andn_bit (a b : Nat) {i : Nat} (h : i < 64) : (andn a b).testBit i = (a.testBit i && !b.testBit i) := by
  rw [andn, BitVec.testBit_toNat, BitVec.getLsbD_and, BitVec.getLsbD_not, BitVec.getLsbD_ofNat, BitVec.getLsbD_ofNat]
  simp only [h, decide_true, Bool.true_and]
theorem bits_andn (a b : Nat) : bits .andNot .u64 (a : Int) (b : Int) = (andn a b : Int) := by
  have h := andn_lt a b
  show IntKind.u64.wrap ((BitVec.ofInt 64 (a : Int) &&& ~~~BitVec.ofInt 64 (b : Int)).toNat : Int) = _
  rw [BitVec.ofInt_natCast, BitVec.ofInt_natCast]
  show IntKind.u64.wrap ((andn a b : Nat) : Int) = _
  rw [IntKind.wrap_u64]
  omega
def Cs.without (a b : Cs) : Cs := Cs.cut ⟨andn a.lo b.lo, andn a.hi b.hi⟩
theorem Cs.without_ok (a b : Cs) : (a.without b).ok := Cs.cut_ok ⟨andn_lt _ _, andn_lt _ _⟩
theorem Cs.without_has (a b : Cs) {k : Nat} (hk : k < 100) : (a.without b).has k = (a.has k && !b.has k) := by
  rw [Cs.without, Cs.cut_has _ hk]
  unfold Cs.has
  split
  · rename_i h; rw [andn_bit _ _ h]
  · rw [andn_bit _ _ (by omega)]
set_option maxRecDepth 100000 in
set_option maxHeartbeats 1000000 in
theorem WithoutOf_any (a b : Cs) (w : World) :
    Calls Try.prog 84 #[.agg a.cells, .agg b.cells] w fun e w' => e = .returned (.agg (a.without b).cells) ∧ Mem w w' [] := by
  have M := Lib.hid (Mem.start w)
  have hb1 := bits_andn a.lo b.lo
  have hb2 := bits_andn a.hi b.hi
  have O1 := Lib.hid (Cs.one (a.without b))
  have q0 : a.cells[0]? = some (.int .u64 a.lo) := rfl
  have q1 : a.cells[1]? = some (.int .u64 a.hi) := rfl
  have q2 : b.cells[0]? = some (.int .u64 b.lo) := rfl
  have q3 : b.cells[1]? = some (.int .u64 b.hi) := rfl
  have CU := Lib.hid (fun w => cut_any ⟨andn a.lo b.lo, andn a.hi b.hi⟩ ⟨andn_lt _ _, andn_lt _ _⟩ w)
  go_enter Try.func84, Try.ntmps84
  go_wp2_with (first
    | ((with_reducible refine gate_dst (N := 2) rfl ?_); go_must (refine M.out.ev_new rfl (by first | (go_simp; done) | (go_simp; rfl)) ?_); intro g2 w2 m; simp only [List.cons_append, List.nil_append] at m; have M := Lib.hid m; clear m)
    | ((with_reducible refine gate_dst (N := 3) rfl ?_); go_must (refine M.out.ev_new rfl (by first | (go_simp; done) | (go_simp; rfl)) ?_); intro g3 w3 m; simp only [List.cons_append, List.nil_append] at m; have M := Lib.hid m; clear m)
    | ((with_reducible refine gate_dst (N := 4) rfl ?_); go_must (refine M.out.ev_new rfl (by first | (go_simp; done) | (go_simp; rfl)) ?_); intro g4 w4 m; simp only [List.cons_append, List.nil_append] at m; have M := Lib.hid m; clear m)
    | ((with_reducible refine gate_dst (N := 6) rfl ?_); go_must (refine M.out.ev_ld 0 _ _ rfl rfl rfl Try.underlying30 rfl rfl (by first | assumption | rfl) ?_))
    | ((with_reducible refine gate_dst (N := 8) rfl ?_); go_must (refine M.out.ev_ld 1 _ _ rfl rfl rfl Try.underlying30 rfl rfl (by first | assumption | rfl) ?_))
    | ((with_reducible refine gate_dst (N := 11) rfl ?_); go_must (refine M.out.ev_ld 0 _ _ rfl rfl rfl Try.underlying30 rfl rfl (by first | assumption | rfl) ?_))
    | ((with_reducible refine gate_dst (N := 13) rfl ?_); go_must (refine M.out.ev_ld 1 _ _ rfl rfl rfl Try.underlying30 rfl rfl (by first | assumption | rfl) ?_))
    | ((with_reducible refine gate_store (x := .tmp 4) rfl ?_); go_must (refine M.out.ev_stw 2 _ _ _ rfl rfl rfl rfl _ rfl (by first | rfl | (simp only [S1.out]; rfl) | (simp only [S1.out, S2.out]; rfl) | (simp only [S3.out]; rfl) | (simp only [S1.out, S2.out, S3.out]; rfl)) (by first | exact sz39 | (rw [S1.out]; exact sz39) | (rw [S2.out]; exact sz39) | (rw [S3.out]; exact sz39)) (by first | exact ints_one _ _ | exact Fld.one _ | exact O1.out | rfl | (simp [Value.oneCell']; done)) rfl ?_); intro wn m; simp only [List.set_cons_succ, List.set_cons_zero, List.setIfInBounds_toArray] at m; have M := Lib.hid m; clear m)
    | (go_at_call 49; go_must (refine (CU.out _).mono ?_); rintro e w_ ⟨rfl, N_⟩; have m := M.out.join N_; clear N_; simp only [List.cons_append, List.nil_append, List.append_nil] at m; have M := Lib.hid m; clear m)
    )
  exact ret_cell rfl (M.out.blk 2 rfl) Try.underlying39 rfl sz39 rfl ⟨rfl, M.out.take 0⟩
theorem Cs.ext_has {a b : Cs} (ha : a.ok) (hb : b.ok) (h : ∀ k, k < 128 → a.has k = b.has k) : a = b := by
  have hi : ∀ {x : Nat} {i : Nat}, x < 18446744073709551616 → 64 ≤ i → x.testBit i = false := fun {x i} hx h64 =>
    Nat.testBit_lt_two_pow (Nat.lt_of_lt_of_le hx (Nat.pow_le_pow_right (n := 2) (by omega) h64))
  have h1 : a.lo = b.lo := Nat.eq_of_testBit_eq fun i => by
    rcases Nat.lt_or_ge i 64 with h64 | h64
    · have := h i (by omega)
      simpa [Cs.has, h64] using this
    · rw [hi ha.l h64, hi hb.l h64]
  have h2 : a.hi = b.hi := Nat.eq_of_testBit_eq fun i => by
    rcases Nat.lt_or_ge i 64 with h64 | h64
    · have := h (64 + i) (by omega)
      simpa [Cs.has, show ¬ (64 + i < 64) by omega] using this
    · rw [hi ha.h h64, hi hb.h h64]
  cases a
  cases b
  simp only at h1 h2
  rw [h1, h2]
theorem Cs.cut_small (c : Cs) {k : Nat} (h1 : 100 ≤ k) (h2 : k < 128) : c.cut.has k = false := by
  unfold Cs.has Cs.cut
  rw [if_neg (by omega), Nat.testBit_and, show (68719476735 : Nat) = 2 ^ 36 - 1 by decide, Nat.testBit_two_pow_sub_one, decide_eq_false (by omega), Bool.and_false]
theorem setOf_small {ks : List Nat} (h : ∀ k ∈ ks, k < 100) {k : Nat} (h1 : 100 ≤ k) : (setOf ks).has k = false := by
  rw [setOf_has, ← Bool.not_eq_true, List.contains_iff_mem]
  intro hk
  have := h k hk
  omega
end Go.Proofs.Ytjkclggdaafmaaa
namespace Go.Proofs.Ytjkclggdaafmaaa
set_option linter.unusedSimpArgs false
set_option linter.unusedVariables false
open Go.RowKit
structure Net where
  x : Int
  y : Int
  wide : Int
  high : Int
  deriving DecidableEq
def Net.vals (x : Net) : List Value := [.int .i8 x.x, .int .i8 x.y, .int .i8 x.wide, .int .i8 x.high]
theorem Net.vl (x : Net) : x.vals.length = 4 := rfl
theorem Net.one (x : Net) : x.vals.toArray.all (·.oneCell') = true := by simp [Net.vals, Value.oneCell']
structure Net.ok (r : Net) : Prop where
  x : -128 ≤ r.x ∧ r.x ≤ 127
  y : -128 ≤ r.y ∧ r.y ≤ 127
  wide : -128 ≤ r.wide ∧ r.wide ≤ 127
  high : -128 ≤ r.high ∧ r.high ≤ 127
def Net.z : Net := ⟨0, 0, 0, 0⟩
theorem elem_Net : ElemOk Try.prog 32 65 (.agg Net.z.vals.toArray) 4 4 := ⟨by kernel_rfl, by kernel_rfl, by kernel_rfl, by decide⟩
set_option maxRecDepth 100000 in
set_option maxHeartbeats 1000000 in
theorem eqNet_any (x y : Net) (w : World) :
    Calls Try.prog 50 #[.agg x.vals.toArray, .agg y.vals.toArray] w fun e w' => e = .returned (.bool (decide (x = y))) ∧ Mem w w' [] := by
  have M := Lib.hid (Mem.start w)
  obtain ⟨a0, a1, a2, a3⟩ := x
  obtain ⟨b0, b1, b2, b3⟩ := y
  simp only [Net.vals]
  go_enter Try.func50, Try.ntmps50
  go_wp2_with (first
    | ((with_reducible refine gate_dst (N := 2) rfl ?_); go_must (refine M.out.ev_new rfl (by first | (go_simp; done) | (go_simp; rfl)) ?_); intro g2 w2 m; simp only [List.cons_append, List.nil_append] at m; have M := Lib.hid m; clear m)
    | ((with_reducible refine gate_dst (N := 3) rfl ?_); go_must (refine M.out.ev_new rfl (by first | (go_simp; done) | (go_simp; rfl)) ?_); intro g3 w3 m; simp only [List.cons_append, List.nil_append] at m; have M := Lib.hid m; clear m)
    | ((with_reducible refine gate_dst (N := 6) rfl ?_); go_must (refine M.out.ev_ld 0 _ _ rfl rfl rfl Try.underlying22 rfl rfl (by first | assumption | rfl) ?_))
    | ((with_reducible refine gate_dst (N := 8) rfl ?_); go_must (refine M.out.ev_ld 1 _ _ rfl rfl rfl Try.underlying22 rfl rfl (by first | assumption | rfl) ?_))
    | ((with_reducible refine gate_dst (N := 11) rfl ?_); go_must (refine M.out.ev_ld 0 _ _ rfl rfl rfl Try.underlying22 rfl rfl (by first | assumption | rfl) ?_))
    | ((with_reducible refine gate_dst (N := 13) rfl ?_); go_must (refine M.out.ev_ld 1 _ _ rfl rfl rfl Try.underlying22 rfl rfl (by first | assumption | rfl) ?_))
    | ((with_reducible refine gate_dst (N := 16) rfl ?_); go_must (refine M.out.ev_ld 0 _ _ rfl rfl rfl Try.underlying22 rfl rfl (by first | assumption | rfl) ?_))
    | ((with_reducible refine gate_dst (N := 18) rfl ?_); go_must (refine M.out.ev_ld 1 _ _ rfl rfl rfl Try.underlying22 rfl rfl (by first | assumption | rfl) ?_))
    | ((with_reducible refine gate_dst (N := 21) rfl ?_); go_must (refine M.out.ev_ld 0 _ _ rfl rfl rfl Try.underlying22 rfl rfl (by first | assumption | rfl) ?_))
    | ((with_reducible refine gate_dst (N := 23) rfl ?_); go_must (refine M.out.ev_ld 1 _ _ rfl rfl rfl Try.underlying22 rfl rfl (by first | assumption | rfl) ?_))
    )
  all_goals
    go_ret
    exact ⟨ret_bool (by simp_all), M.out.take 0⟩

set_option maxRecDepth 100000 in
set_option maxHeartbeats 1000000 in
theorem eqNetS_any (A B : Option Addr) (c d : Nat) (xs ys : List Net) (w : World) (h1 : xs.length ≤ 1048576) (hx : Sl w 4 A xs.length (flat Net.vals xs)) (hy : Sl w 4 B ys.length (flat Net.vals ys)) :
    Calls Try.prog 10 #[.slice A xs.length c, .slice B ys.length d] w fun e w' => e = .returned (.bool (decide (xs = ys))) ∧ Mem w w' [] := by
  have M := Lib.hid (Mem.start w)
  have HX := Lib.hid hx
  have HY := Lib.hid hy
  clear hx hy
  by_cases hl : xs.length = ys.length
  · have HL := Lib.hid hl
    have hb : ((xs.length : Int) != (ys.length : Int)) = false := by simp [hl]
    clear hl
    go_enter Try.func10, Try.ntmps10
    go_wp2_with fail
    clear hb
    go_loopw [5] (fun v wr => ∃ k : Nat, k ≤ xs.length ∧ v = .int .i64 k ∧ xs.take k = ys.take k ∧ Mem w wr [])
      (fun v _ => xs.length - (intOf v).toNat)
    case atStart => exact ⟨0, by omega, rfl, rfl, M.out⟩
    case round =>
      clear M
      obtain ⟨k, hk, rfl, he, m⟩ := hrel
      have HE := Lib.hid he
      have M := Lib.hid m
      clear m he
      by_cases hlt : k < xs.length
      · have hlt2 : k < ys.length := by have := HL.out; omega
        obtain ⟨b, off, rfl, hr⟩ := (M.out.sl HX.out).2 (by omega)
        obtain ⟨b2, off2, rfl, hr2⟩ := (M.out.sl HY.out).2 (by omega)
        have R := Lib.hid (range_at Net.vl hr (List.getElem?_eq_getElem hlt))
        have R2 := Lib.hid (range_at Net.vl hr2 (List.getElem?_eq_getElem hlt2))
        have i0 : (0 : Int) ≤ (k : Int) := by omega
        have i1 : (k : Int) < (xs.length : Int) := by omega
        have i2 : (k : Int) < (ys.length : Int) := by omega
        clear hr hr2
        have x0 : wr.cell? ⟨b, off + k * 4, none⟩ = some (.int .i8 xs[k].x) := R.out 0 _ rfl
        have x1 : wr.cell? ⟨b, off + k * 4 + 1, none⟩ = some (.int .i8 xs[k].y) := R.out 1 _ rfl
        have x2 : wr.cell? ⟨b, off + k * 4 + 2, none⟩ = some (.int .i8 xs[k].wide) := R.out 2 _ rfl
        have x3 : wr.cell? ⟨b, off + k * 4 + 3, none⟩ = some (.int .i8 xs[k].high) := R.out 3 _ rfl
        have y0 : wr.cell? ⟨b2, off2 + k * 4, none⟩ = some (.int .i8 ys[k].x) := R2.out 0 _ rfl
        have y1 : wr.cell? ⟨b2, off2 + k * 4 + 1, none⟩ = some (.int .i8 ys[k].y) := R2.out 1 _ rfl
        have y2 : wr.cell? ⟨b2, off2 + k * 4 + 2, none⟩ = some (.int .i8 ys[k].wide) := R2.out 2 _ rfl
        have y3 : wr.cell? ⟨b2, off2 + k * 4 + 3, none⟩ = some (.int .i8 ys[k].high) := R2.out 3 _ rfl
        go_wp2_with fail
        go_region_held3 (fun w' => w'.cell? ⟨b, off + k * 4, none⟩ = some (.int .i8 xs[k].x) ∧ w'.cell? ⟨b, off + k * 4 + 1, none⟩ = some (.int .i8 xs[k].y) ∧ w'.cell? ⟨b, off + k * 4 + 2, none⟩ = some (.int .i8 xs[k].wide) ∧ w'.cell? ⟨b, off + k * 4 + 3, none⟩ = some (.int .i8 xs[k].high) ∧ w'.cell? ⟨b2, off2 + k * 4, none⟩ = some (.int .i8 ys[k].x) ∧ w'.cell? ⟨b2, off2 + k * 4 + 1, none⟩ = some (.int .i8 ys[k].y) ∧ w'.cell? ⟨b2, off2 + k * 4 + 2, none⟩ = some (.int .i8 ys[k].wide) ∧ w'.cell? ⟨b2, off2 + k * 4 + 3, none⟩ = some (.int .i8 ys[k].high)) (first | go_keep | (go_split_ands; (repeat' apply And.intro) <;> exact cell_kept N_.below (by assumption)))
          (first | (go_at_call 50; refine (eqNet_any xs[k] ys[k] _).mono ?_; rintro e w_ ⟨rfl, N_⟩))
        have M := Lib.hid ((M.out.drew.join N_).take 0)
        clear N_ x0 x1 x2 x3 y0 y1 y2 y3
        go_wp2
        · have hq : (!decide (xs[k] = ys[k])) = true := by assumption
          go_ret
          refine ⟨ret_bool ?_, M.out⟩
          symm
          rw [decide_eq_false_iff_not]
          rintro rfl
          simp at hq
        · have hq : (!decide (xs[k] = ys[k])) = false := by assumption
          refine ⟨⟨k + 1, by omega, by go_num, ?_, M.out⟩, by simp [intOf]; omega⟩
          rw [List.take_succ_eq_append_getElem hlt, List.take_succ_eq_append_getElem hlt2, HE.out, show xs[k] = ys[k] by simpa using hq]
      · have hk2 : k = xs.length := by omega
        have HK := Lib.hid hk2
        have hn : decide ((k : Int) < (xs.length : Int)) = false := by simp; omega
        clear hk2
        go_wp2
        go_ret
        refine ⟨ret_bool ?_, M.out⟩
        have he := HE.out
        rw [HK.out, List.take_of_length_le (Nat.le_refl _), HL.out, List.take_of_length_le (Nat.le_refl _)] at he
        simp [he]
  · have hb : ((xs.length : Int) != (ys.length : Int)) = true := by rw [bne_iff_ne]; omega
    go_enter Try.func10, Try.ntmps10
    go_wp2
    go_ret
    refine ⟨ret_bool ?_, M.out⟩
    symm
    rw [decide_eq_false_iff_not]
    rintro rfl
    exact hl rfl
def Net.ks : List IntKind := [.i8, .i8, .i8, .i8]
theorem Net.of_conf (cs : List Value) (h : Conf Net.ks cs) : ∃ x : Net, x.ok ∧ x.vals = cs := by
  obtain ⟨e0, r, rfl, w0, h⟩ := h.cons
  obtain ⟨e1, r, rfl, w1, h⟩ := h.cons
  obtain ⟨e2, r, rfl, w2, h⟩ := h.cons
  obtain ⟨e3, r, rfl, w3, h⟩ := h.cons
  obtain rfl := h.nil_eq
  exact ⟨⟨e0, e1, e2, e3⟩, ⟨bounds_i8 w0, bounds_i8 w1, bounds_i8 w2, bounds_i8 w3⟩, rfl⟩
end Go.Proofs.Ytjkclggdaafmaaa
