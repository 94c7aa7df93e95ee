/- Texts of a proof, laid together: ChoP, ChoA, Min, Eat, EqF, Visit, EatOnce, VisitM, Feed, Gen2, Day, FeedAll, EqI, FeedDays, FlockM, MoveF. -/
import Derived.Test.YtkomhngokcejbaaGreatDoorZV06
import Derived.Test.YtkomhngokcejbaaGreatDoorZV10
import Derived.Test.YtkomhngokcejbaaGreatDoorZV02
import Derived.Test.YtkomhngokcejbaaGreatDoorZV03
import Derived.Test.YtkomhngokcejbaaGreatDoorZV09
import Derived.Test.YtkomhngokcejbaaGreatDoorZV01
import Derived.Test.YtkomhngokcejbaaGreatDoorZV05
namespace Go.Proofs.YtkomhngokcejbaaGreatDoor
set_option linter.unusedSimpArgs false
set_option linter.unusedVariables false
open Go.RowKit

theorem lexlt_self : ∀ a : List Int, lexlt a a = false
  | [] => rfl
  | a :: r => by simp [lexlt, lexlt_self r]
theorem lexlt_trans : ∀ a b c : List Int, lexlt a b = true → lexlt b c = true → lexlt a c = true
  | [], [], _, h, _ => by cases h
  | [], _ :: _, [], _, h => by cases h
  | [], _ :: _, _ :: _, _, _ => rfl
  | _ :: _, [], _, h, _ => by cases h
  | _ :: _, _ :: _, [], _, h => by cases h
  | a :: r, b :: q, c :: s, h1, h2 => by
    have ih := lexlt_trans r q s
    simp only [lexlt, Bool.or_eq_true, Bool.and_eq_true, decide_eq_true_eq] at h1 h2 ⊢
    rcases h1 with h1 | ⟨h1, h3⟩
    · rcases h2 with h2 | ⟨h2, _⟩
      · left; omega
      · left; omega
    · rcases h2 with h2 | ⟨h2, h4⟩
      · left; omega
      · right; exact ⟨h1.trans h2, ih h3 h4⟩
theorem pick_least (p : Nat → Bool) (lt : Nat → Nat → Bool) (hs : ∀ k, lt k k = false) (ht : ∀ a b c, lt a b = true → lt b c = true → lt a c = true) (ks : List Nat) :
    ∀ k ∈ ks, p k = true → 0 ≤ pick p lt ks ∧ lt k (pick p lt ks).toNat = false := by
  have key : ∀ (r seen : List Nat) (b : Int), (∀ k ∈ seen, p k = true → 0 ≤ b ∧ lt k b.toNat = false) → ∀ k, (k ∈ seen ∨ k ∈ r) → p k = true → 0 ≤ r.foldl (pickStep p lt) b ∧ lt k (r.foldl (pickStep p lt) b).toNat = false := by
    intro r
    induction r with
    | nil =>
      intro seen b h k hk hp
      exact h k (hk.elim id fun h => by cases h) hp
    | cons x r ih =>
      intro seen b h k hk hp
      rw [List.foldl_cons]
      refine ih (x :: seen) (pickStep p lt b x) (fun j hj hpj => ?_) k (hk.elim (fun h => .inl (List.mem_cons_of_mem _ h)) fun h => (List.mem_cons.1 h).elim (fun e => .inl (by rw [e]; simp)) .inr) hp
      unfold pickStep
      by_cases hc : (p x && (decide (b < 0) || lt x b.toNat)) = true
      · rw [if_pos hc]
        refine ⟨by omega, ?_⟩
        rw [Int.toNat_natCast]
        rcases List.mem_cons.1 hj with rfl | hj
        · exact hs j
        · obtain ⟨h0, h1⟩ := h j hj hpj
          cases hjx : lt j x with
          | false => rfl
          | true =>
            rw [Bool.and_eq_true, Bool.or_eq_true, decide_eq_true_eq] at hc
            rcases hc.2 with h2 | h2
            · omega
            · rw [ht _ _ _ hjx h2] at h1; cases h1
      · rw [if_neg hc]
        rcases List.mem_cons.1 hj with rfl | hj
        · rw [hpj, Bool.true_and, Bool.or_eq_true, decide_eq_true_eq, not_or] at hc
          exact ⟨by omega, by simpa using hc.2⟩
        · exact h j hj hpj
  intro k hk hp
  exact key ks [] (-1) (fun _ h => by cases h) k (.inr hk) hp
section
variable {F : Fld} {fs : List Int} {x : Flock}
theorem choice_least {k : Nat} (hk : k < 100) (h : (F.has k && goP F fs x k) = true) : 0 ≤ choiceOf F fs x ∧ better F fs x k (choiceOf F fs x).toNat = false :=
  pick_least _ (better F fs x) (fun k => lexlt_self _) (fun a b c h1 h2 => lexlt_trans _ _ _ h1 h2) (List.range 100) k (List.mem_range.2 hk) h
/-- By its taste none is better. -/
theorem taste_seeds (ht : x.taste = 0) {a b : Nat} (h : better F fs x a b = false) : F.seed a ≤ F.seed b := by
  unfold better rk at h
  rw [if_pos ht, if_pos ht] at h
  simp only [lexlt, Bool.or_eq_false_iff, decide_eq_false_iff_not] at h
  omega
theorem taste_near (ht : x.taste = 1) {a b : Nat} (h : better F fs x a b = false) : sq b x.tree ≤ sq a x.tree := by
  unfold better rk at h
  have h0 : ¬ x.taste = 0 := by omega
  rw [if_neg h0, if_neg h0, if_pos ht, if_pos ht] at h
  simp only [lexlt, Bool.or_eq_false_iff, decide_eq_false_iff_not] at h
  omega
theorem taste_calm (h0 : x.taste ≠ 0) (h1 : x.taste ≠ 1) {a b : Nat} (h : better F fs x a b = false) : gi fs b ≤ gi fs a := by
  unfold better rk at h
  rw [if_neg h0, if_neg h0, if_neg h1, if_neg h1] at h
  simp only [lexlt, Bool.or_eq_false_iff, decide_eq_false_iff_not] at h
  omega
/-- Where a flock would go, no cell is safe from all. -/
theorem left_not {xs : List Flock} (hx : x ∈ xs) {k : Nat} (hk : k < 100) (h : (F.has k && goP F fs x k) = true) : (leftOf F fs xs).has k = false := by
  have key : ∀ (r : List Flock) (c : Cs), x ∈ r ∨ c.has k = false → (r.foldl (fun c x => c.without (goSet F fs x)) c).has k = false := by
    intro r
    induction r with
    | nil =>
      intro c h
      exact h.elim (fun h => by cases h) id
    | cons y r ih =>
      intro c hc
      rw [List.foldl_cons]
      refine ih _ ?_
      rcases hc with hc | hc
      · rcases List.mem_cons.1 hc with rfl | hc
        · right
          rw [Cs.without_has _ _ hk, goSet_has F fs x hk, h]
          simp
        · left; exact hc
      · right
        rw [Cs.without_has _ _ hk, hc]
        rfl
  exact key xs _ (.inl hx)
end
end Go.Proofs.YtkomhngokcejbaaGreatDoor
namespace Go.Proofs.YtkomhngokcejbaaGreatDoor
set_option linter.unusedSimpArgs false
set_option linter.unusedVariables false
open Go.RowKit
attribute [local go_sem] cell?_mk frozen?_mk
--ONES exact Flock.one _ | exact Fld.one _ | exact Cs.one _ | exact ints_one _ _

set_option maxRecDepth 100000 in
set_option maxHeartbeats 2000000 in
theorem EqualFlocks_any (A B : Option Addr) (c d : Nat) (xs : List Flock) (w : World) (hl : xs.length ≤ 1048576) (hx : Sl w 6 A xs.length (flat Flock.vals xs)) (hy : Sl w 6 B xs.length (flat Flock.vals xs)) :
    Calls Tryz.prog 74 #[.slice A xs.length c, .slice B xs.length d] w fun e w' => e = .returned (.bool true) ∧ Mem w w' [] := by
  have M := Lib.hid (Mem.start w)
  have HX := Lib.hid hx
  have HY := Lib.hid hy
  clear hx hy
  go_enter Tryz.func74, Tryz.ntmps74
  go_wp2
  go_loopw [13] (fun v wr => ∃ k : Nat, k ≤ xs.length ∧ v = .int .i64 k ∧ Mem w wr [])
    (fun v _ => xs.length - (intOf v).toNat)
  case atStart => exact ⟨0, by omega, rfl, M.out⟩
  case round =>
    clear M
    obtain ⟨k, hk, rfl, m⟩ := hrel
    have M := Lib.hid m
    clear m
    by_cases hlt : k < xs.length
    · obtain ⟨b, off, rfl, _⟩ := HX.out.2 (by omega)
      obtain ⟨b2, off2, rfl, _⟩ := HY.out.2 (by omega)
      have HXK := Lib.hid (show xs[k]? = some xs[k] from List.getElem?_eq_getElem hlt)
      have i0 : (0 : Int) ≤ (k : Int) := by omega
      have i1 : (k : Int) < (xs.length : Int) := by omega
      obtain ⟨x, hx⟩ : ∃ x, x = xs[k] := ⟨_, rfl⟩
      rw [← hx] at HXK
      clear hx
      have heq := neqFlock x
      go_wp2
      refine region_anyH (fun w' => Mem w w' []) (by kernel_rfl) ?_
      have m := M.out.drew
      clear M
      have M := Lib.hid m
      clear m
      apply takeH (i := 0) 16 rfl (by kernel_rfl) (by kernel_rfl) (by kernel_rfl) (fun _ _ _ h => h) rfl (by first | exact M.out | exact M.out.take 0)
      case' hy =>
        refine Or.inl ⟨by first | rfl | (go_simp; done), ?_⟩
        intro w hS
        clear hS
        go_simp
        try with_reducible rfl
      try simp only [Act.put, List.getElem_toArray, List.getElem_cons_succ, List.getElem_cons_zero, List.setIfInBounds_toArray, List.set_cons_succ, List.set_cons_zero]
      apply takeH (i := 1) 17 rfl (by kernel_rfl) (by kernel_rfl) (by kernel_rfl) (fun _ _ _ h => h) rfl (by first | exact M.out | exact M.out.take 0)
      case' hy =>
        refine Or.inl ⟨by first | rfl | (go_simp; done), ?_⟩
        intro w hS
        clear hS
        go_simp
        try with_reducible rfl
      try simp only [Act.put, List.getElem_toArray, List.getElem_cons_succ, List.getElem_cons_zero, List.setIfInBounds_toArray, List.set_cons_succ, List.set_cons_zero]
      apply takeH (i := 2) 18 rfl (by kernel_rfl) (by kernel_rfl) (by kernel_rfl) (fun _ _ _ h => h) rfl (by first | exact M.out | exact M.out.take 0)
      case' hy =>
        refine Or.inl ⟨by first | rfl | (go_simp; done), ?_⟩
        intro w hS
        clear hS
        go_simp
        try with_reducible rfl
      try simp only [Act.put, List.getElem_toArray, List.getElem_cons_succ, List.getElem_cons_zero, List.setIfInBounds_toArray, List.set_cons_succ, List.set_cons_zero]
      apply takeH (i := 3) 19 rfl (by kernel_rfl) (by kernel_rfl) (by kernel_rfl) (fun _ _ _ h => h) rfl (by first | exact M.out | exact M.out.take 0)
      case' hy => exact yieldsIf_load_mid (by first | rfl | (go_simp; done)) _ _ rfl _ _ rfl _ _ (fun w' hS => range_at Flock.vl (sl_rangeFlock (hS.sl HX.out) hlt) HXK.out) Tryz.underlying48 rfl sz48
      try simp only [Act.put, List.getElem_toArray, List.getElem_cons_succ, List.getElem_cons_zero, List.setIfInBounds_toArray, List.set_cons_succ, List.set_cons_zero]
      apply takeH (i := 4) 20 rfl (by kernel_rfl) (by kernel_rfl) (by kernel_rfl) (fun _ _ _ h => h) rfl (by first | exact M.out | exact M.out.take 0)
      case' hy =>
        refine Or.inl ⟨by first | rfl | (go_simp; done), ?_⟩
        intro w hS
        clear hS
        go_simp
        try with_reducible rfl
      try simp only [Act.put, List.getElem_toArray, List.getElem_cons_succ, List.getElem_cons_zero, List.setIfInBounds_toArray, List.set_cons_succ, List.set_cons_zero]
      apply takeH (i := 5) 21 rfl (by kernel_rfl) (by kernel_rfl) (by kernel_rfl) (fun _ _ _ h => h) rfl (by first | exact M.out | exact M.out.take 0)
      case' hy =>
        refine Or.inl ⟨by first | rfl | (go_simp; done), ?_⟩
        intro w hS
        clear hS
        go_simp
        try with_reducible rfl
      try simp only [Act.put, List.getElem_toArray, List.getElem_cons_succ, List.getElem_cons_zero, List.setIfInBounds_toArray, List.set_cons_succ, List.set_cons_zero]
      apply takeH (i := 6) 22 rfl (by kernel_rfl) (by kernel_rfl) (by kernel_rfl) (fun _ _ _ h => h) rfl (by first | exact M.out | exact M.out.take 0)
      case' hy =>
        refine Or.inl ⟨by first | rfl | (go_simp; done), ?_⟩
        intro w hS
        clear hS
        go_simp
        try with_reducible rfl
      try simp only [Act.put, List.getElem_toArray, List.getElem_cons_succ, List.getElem_cons_zero, List.setIfInBounds_toArray, List.set_cons_succ, List.set_cons_zero]
      apply takeH (i := 7) 23 rfl (by kernel_rfl) (by kernel_rfl) (by kernel_rfl) (fun _ _ _ h => h) rfl (by first | exact M.out | exact M.out.take 0)
      case' hy => exact yieldsIf_load_mid (by first | rfl | (go_simp; done)) _ _ rfl _ _ rfl _ _ (fun w' hS => range_at Flock.vl (sl_rangeFlock (hS.sl HY.out) hlt) HXK.out) Tryz.underlying48 rfl sz48
      try simp only [Act.put, List.getElem_toArray, List.getElem_cons_succ, List.getElem_cons_zero, List.setIfInBounds_toArray, List.set_cons_succ, List.set_cons_zero]
      apply takeH (i := 8) 24 rfl (by kernel_rfl) (by kernel_rfl) (by kernel_rfl) (fun _ _ _ h => h) rfl (by first | exact M.out | exact M.out.take 0)
      case' hy =>
        refine Or.inl ⟨by first | rfl | (go_simp; done), ?_⟩
        intro w hS
        clear hS
        go_simp
        try with_reducible rfl
      try simp only [Act.put, List.getElem_toArray, List.getElem_cons_succ, List.getElem_cons_zero, List.setIfInBounds_toArray, List.set_cons_succ, List.set_cons_zero]
      refine wpAnyH_done (by kernel_rfl) ?_ _
      go_wp2
      exact ⟨⟨k + 1, by omega, by go_num, M.out⟩, by simp [intOf]; omega⟩
    · obtain rfl : k = xs.length := by omega
      go_wp2
      go_ret
      exact ⟨rfl, M.out⟩
set_option maxRecDepth 100000 in
set_option maxHeartbeats 1000000 in
theorem impl_SameFlocks_any (A B : Option Addr) (c d : Nat) (xs : List Flock) (w : World) (hl : xs.length ≤ 1048576) (hx : Sl w 6 A xs.length (flat Flock.vals xs)) (hy : Sl w 6 B xs.length (flat Flock.vals xs)) :
    Calls Tryz.prog 14 #[.slice A xs.length c, .slice B xs.length d] w fun e w' => e = .returned (.bool true) ∧ Mem w w' [] := by
  have M := Lib.hid (Mem.start w)
  have HX := Lib.hid hx
  have HY := Lib.hid hy
  clear hx hy
  go_enter Tryz.func14, Tryz.ntmps14
  go_wp2_with (first
    | (go_at_call 74; go_must (refine (EqualFlocks_any _ _ _ _ xs _ hl (M.out.sl HX.out) (M.out.sl HY.out)).mono ?_); rintro e w_ ⟨rfl, N_⟩; have m := M.out.join N_; clear N_; simp only [List.cons_append, List.nil_append, List.append_nil] at m; have M := Lib.hid m; clear m))
  go_ret
  exact ⟨rfl, M.out⟩
set_option maxRecDepth 100000 in
set_option maxHeartbeats 1000000 in
theorem ValidFears_any (F : Fld) (hF : F.ok) (fs : List Int) (hfl : fs.length = 100) (hff : ∀ x ∈ fs, -32768 ≤ x ∧ x ≤ 32767) (w : World) :
    Calls Tryz.prog 16 #[.agg F.cells, .agg (ints .i16 fs)] w fun e w' => e = .returned (.bool (F.valid && fearsOk F fs)) ∧ Mem w w' [] := by
  have M := Lib.hid (Mem.start w)
  have HFF := Lib.hid hff
  have S1 := Lib.hid (Fld.size hF.toLen)
  have S2 := Lib.hid (show (ints .i16 fs).size = 100 by rw [ints_size, hfl])
  clear hff
  cases hv : F.valid
  all_goals
    have HV := Lib.hid hv
    clear hv
    go_enter Tryz.func16, Tryz.ntmps16
    go_wp2_with (first
      | ((with_reducible refine gate_dst (N := 2) rfl ?_); go_must (refine M.out.ev_new rfl (by first | (go_simp; done) | (go_simp; rfl)) ?_); intro g2 w2 m; simp only [List.cons_append, List.nil_append] at m; have M := Lib.hid m; clear m)
      | ((with_reducible refine gate_dst (N := 3) rfl ?_); go_must (refine M.out.ev_new rfl (by first | (go_simp; done) | (go_simp; rfl)) ?_); intro g3 w3 m; simp only [List.cons_append, List.nil_append] at m; have M := Lib.hid m; clear m)
      | ((with_reducible refine gate_dst (N := 5) rfl ?_); go_must (refine M.out.ev_ldw 0 _ _ rfl rfl rfl Tryz.underlying29 rfl (by first | exact sz29 | (rw [S1.out]; exact sz29) | (rw [S2.out]; exact sz29) | (rw [S3.out]; exact sz29)) rfl ?_))
      | (go_at_call 75; go_must (refine (ValidField_any F hF _).mono ?_); rintro e w_ ⟨rfl, N_⟩; have m := M.out.join N_; clear N_; simp only [List.cons_append, List.nil_append, List.append_nil] at m; have M := Lib.hid m; clear m; rw [HV.out])
      | (go_at_call 77; go_must (refine (areFears_any g2 g3 F hF fs hfl HFF.out _ (M.out.blk 0 rfl) (M.out.blk 1 rfl)).mono ?_); rintro e w_ ⟨rfl, N_⟩; have m := M.out.join N_; clear N_; simp only [List.cons_append, List.nil_append, List.append_nil] at m; have M := Lib.hid m; clear m)
      )
    go_ret
    exact ⟨rfl, M.out.take 0⟩
set_option maxRecDepth 100000 in
set_option maxHeartbeats 1000000 in
theorem CalmFears_any (w : World) :
    Calls Tryz.prog 17 #[] w fun e w' => e = .returned (.agg (ints .i16 (zs 100))) ∧ Mem w w' [] := by
  have M := Lib.hid (Mem.start w)
  have Z1 := Lib.hid (show Tryz.zeroCells31.size = 100 by rw [zeroFs]; rfl)
  go_enter Tryz.func17, Tryz.ntmps17
  go_wp2_with (first
    | ((with_reducible refine gate_dst (N := 0) rfl ?_); go_must (refine M.out.ev_new rfl (by first | (go_simp; done) | (go_simp; rfl)) ?_); intro g0 w0 m; simp only [List.nil_append] at m; rw [zeroFs] at m; have M := Lib.hid m; clear m)
    | ((with_reducible refine gate_store (x := .tmp 0) rfl ?_); go_must (refine M.out.ev_stw 0 _ _ _ rfl rfl rfl rfl _ rfl (by rw [Z1.out]; rfl) (by rw [Z1.out]; exact sz31) (by rw [zeroFs]; exact ints_one _ _) rfl ?_); intro wn m; simp only [List.set_cons_zero, List.set_cons_succ] at m; have M := Lib.hid m; clear m)
    )
  exact ret_cell rfl (M.out.blk 0 rfl) Tryz.underlying31 rfl (by rw [Z1.out]; exact sz31) rfl ⟨by rw [zeroFs], M.out.take 0⟩
set_option maxRecDepth 100000 in
set_option maxHeartbeats 1000000 in
theorem sqHas_any (g ga gb : Nat) {t ta tb : TypeId} (F : Fld) (hF : F.ok) (a b : Int) (w : World) (hb : Blk w g t F.cells) (h1 : Blk w ga ta #[.int .i64 a]) (h2 : Blk w gb tb #[.int .i64 b]) :
    Calls Tryz.prog 85 #[.pointer (some ⟨g, 0, none⟩), .pointer (some ⟨ga, 0, none⟩), .pointer (some ⟨gb, 0, none⟩)] w fun e w' => e = .returned (.bool (F.has a && F.has b)) ∧ Mem w w' [] := by
  have M := Lib.hid (Mem.start w)
  have HB := Lib.hid hb
  have x1 := h1.cellv (i := 0) rfl
  have x2 := h2.cellv (i := 0) rfl
  clear hb h1 h2
  cases hc : F.has a
  all_goals
    have HC := Lib.hid hc
    clear hc
    go_enter Tryz.func85, Tryz.ntmps85
    go_wp2_with (first
      | (go_at_call 86; go_must (first | (refine Calls.mono (calls_args (by with_reducible rfl) (has_any g F hF a _ HB.out)) ?_; rintro e w_ ⟨rfl, rfl⟩; rw [HC.out]) | (refine Calls.mono (calls_args (by with_reducible rfl) (has_any g F hF b _ HB.out)) ?_; rintro e w_ ⟨rfl, rfl⟩)))
      )
    go_ret
    exact ⟨rfl, M.out.take 0⟩
set_option maxRecDepth 100000 in
set_option maxHeartbeats 1000000 in
theorem impl_SquareOf_any (F : Fld) (hF : F.ok) (hv : F.valid = true) (a b : Nat) (ha : a < 100) (hb : b < 100) (hha : F.has (a : Int) = true) (hhb : F.has (b : Int) = true) (w : World) :
    Calls Tryz.prog 25 #[.agg F.cells, .int .i64 a, .int .i64 b] w fun e w' => e = .returned (.tuple #[.int .i64 (sq a b), .int .i64 0]) ∧ Mem w w' [] := by
  have M := Lib.hid (Mem.start w)
  have HV := Lib.hid hv
  have HA := Lib.hid hha
  have HB := Lib.hid hhb
  clear hv hha hhb
  go_enter Tryz.func25, Tryz.ntmps25
  go_wp2_with (first
    | ((with_reducible refine gate_dst (N := 3) rfl ?_); go_must (refine M.out.ev_new rfl (by first | (go_simp; done) | (go_simp; rfl)) ?_); intro g3 w3 m; simp only [List.cons_append, List.nil_append] at m; have M := Lib.hid m; clear m)
    | ((with_reducible refine gate_dst (N := 4) rfl ?_); go_must (refine M.out.ev_new rfl (by first | (go_simp; done) | (go_simp; rfl)) ?_); intro g4 w4 m; simp only [List.cons_append, List.nil_append] at m; have M := Lib.hid m; clear m)
    | ((with_reducible refine gate_dst (N := 5) rfl ?_); go_must (refine M.out.ev_new rfl (by first | (go_simp; done) | (go_simp; rfl)) ?_); intro g5 w5 m; simp only [List.cons_append, List.nil_append] at m; have M := Lib.hid m; clear m)
    | ((with_reducible refine gate_dst (N := 14) rfl ?_); go_must (refine M.out.ev_ld 1 _ _ rfl rfl rfl Tryz.underlying2 rfl rfl (by first | assumption | rfl) ?_))
    | ((with_reducible refine gate_dst (N := 15) rfl ?_); go_must (refine M.out.ev_ld 2 _ _ rfl rfl rfl Tryz.underlying2 rfl rfl (by first | assumption | rfl) ?_))
    | (go_at_call 84; go_must (refine (fieldCode_any g3 F hF 85 #[.pointer (some ⟨g3, 0, none⟩), .pointer (some ⟨g4, 0, none⟩), .pointer (some ⟨g5, 0, none⟩)] (F.has a && F.has b) _ (M.out.blk 0 rfl) (fun _ _ => by go_simp) (fun w1 m1 => sqHas_any g3 g4 g5 F hF a b w1 ((M.out.join m1).blk 0 rfl) ((M.out.join m1).blk 1 rfl) ((M.out.join m1).blk 2 rfl))).mono ?_); rintro e w_ ⟨rfl, N_⟩; have m := M.out.join N_; clear N_; simp only [List.cons_append, List.nil_append, List.append_nil] at m; have M := Lib.hid m; clear m; rw [HV.out, HA.out, HB.out, show okCode true (true && true) = 0 from rfl])
    | (go_at_call 87; go_must (refine (square_any a b (by omega) (by omega) (by omega) (by omega) _).mono ?_); rintro e w_ ⟨rfl, rfl⟩)
    )
  go_ret2
  exact ⟨rfl, M.out.take 0⟩
set_option maxRecDepth 100000 in
set_option maxHeartbeats 1000000 in
theorem spec_SquareOf_any (F : Fld) (hF : F.ok) (hv : F.valid = true) (a b : Nat) (ha : a < 100) (hb : b < 100) (hha : F.has (a : Int) = true) (hhb : F.has (b : Int) = true) (w : World) :
    Calls Tryz.prog 26 #[.agg F.cells, .int .i64 a, .int .i64 b] w fun e w' => e = .returned (.tuple #[.int .i64 (sq a b), .int .i64 0]) ∧ Mem w w' [] := by
  have M := Lib.hid (Mem.start w)
  have HV := Lib.hid hv
  have HA := Lib.hid hha
  have HB := Lib.hid hhb
  clear hv hha hhb
  go_enter Tryz.func26, Tryz.ntmps26
  go_wp2_with (first
    | ((with_reducible refine gate_dst (N := 3) rfl ?_); go_must (refine M.out.ev_new rfl (by first | (go_simp; done) | (go_simp; rfl)) ?_); intro g3 w3 m; simp only [List.cons_append, List.nil_append] at m; have M := Lib.hid m; clear m)
    | (go_at_call 71; go_must (refine (l01Is_any g3 F hF b _ (M.out.blk 0 rfl)).mono ?_); rintro e w_ ⟨rfl, rfl⟩; rw [HB.out])
    | (go_at_call 88; go_must (refine (l01Asked_any g3 F hF a true _ (M.out.blk 0 rfl)).mono ?_); rintro e w_ ⟨rfl, N_⟩; have m := M.out.join N_; clear N_; simp only [List.cons_append, List.nil_append, List.append_nil] at m; have M := Lib.hid m; clear m; rw [HV.out, HA.out, show okCode true (true && true) = 0 from rfl])
    | (go_at_call 89; go_must (refine (l01Square_any a b (by omega) (by omega) (by omega) (by omega) _).mono ?_); rintro e w_ ⟨rfl, rfl⟩)
    )
  go_ret2
  exact ⟨rfl, M.out.take 0⟩
/-- The nearest tree of a tree is it itself. -/
theorem sq_self (a : Int) : sq a a = 0 := by simp [sq]
theorem sqz (z : Int) : 0 ≤ z * z := by rw [← Int.natAbs_mul_self]; exact Int.natCast_nonneg _
theorem sqp {z : Int} (h : z ≠ 0) : 0 < z * z := by
  rw [← Int.natAbs_mul_self]
  have h1 : 0 < z.natAbs := by omega
  have := Nat.mul_pos h1 h1
  omega
theorem sq_pos {a b : Nat} (h : a ≠ b) : 0 < sq (a : Int) b := by
  unfold sq
  have h0 : (a : Int) % 10 - (b : Int) % 10 ≠ 0 ∨ (a : Int) / 10 - (b : Int) / 10 ≠ 0 := by omega
  rcases h0 with h0 | h0
  · have := sqp h0
    have := sqz ((a : Int) / 10 - (b : Int) / 10)
    omega
  · have := sqp h0
    have := sqz ((a : Int) % 10 - (b : Int) % 10)
    omega
def nearLt (c a b : Nat) : Bool := decide (sq (c : Int) a < sq (c : Int) b)
theorem near_self (F : Fld) {c : Nat} (hc : c < 100) (hh : F.has (c : Int) = true) (hk : F.kind c = 3) : pick (ofKd F 3).has (nearLt c) F.all = c := by
  have hm : c ∈ F.all := by simp [Fld.all, Fld.below, hc, hh]
  have hp : (ofKd F 3).has c = true := by rw [ofKd_has F 3 hc, hh, hk]; rfl
  obtain ⟨h0, h1⟩ := pick_least (ofKd F 3).has (nearLt c) (fun k => by simp [nearLt]) (fun a b d h1 h2 => by simp only [nearLt, decide_eq_true_eq] at h1 h2 ⊢; omega) F.all c hm hp
  obtain ⟨q, hq⟩ : ∃ q : Nat, pick (ofKd F 3).has (nearLt c) F.all = q := ⟨_, (Int.toNat_of_nonneg h0).symm⟩
  rw [hq, Int.toNat_natCast] at h1
  rw [hq]
  by_cases e : c = q
  · rw [e]
  · have := sq_pos e
    simp only [nearLt, decide_eq_false_iff_not, sq_self] at h1
    omega
set_option maxRecDepth 100000 in
set_option maxHeartbeats 1000000 in
theorem nearer_any (g : Nat) {t : TypeId} (c a b : Nat) (hc : c < 100) (ha : a < 100) (hb : b < 100) (w : World) (h : Blk w g t #[.int .i64 c]) :
    Calls Tryz.prog 153 #[.int .i64 a, .int .i64 b, .pointer (some ⟨g, 0, none⟩)] w fun e w' => e = .returned (.bool (nearLt c a b)) ∧ Mem w w' [] := by
  have M := Lib.hid (Mem.start w)
  have H1 := Lib.hid h
  have S1 := Lib.hid (fun w => square_any c a (by omega) (by omega) (by omega) (by omega) w)
  have S2 := Lib.hid (fun w => square_any c b (by omega) (by omega) (by omega) (by omega) w)
  have NL := Lib.hid (show nearLt c a b = decide (sq (c : Int) a < sq (c : Int) b) from rfl)
  clear h
  generalize sq (c : Int) a = p at S1 NL
  generalize sq (c : Int) b = q at S2 NL
  go_enter Tryz.func153, Tryz.ntmps153
  go_wp2
  refine region_anyH (fun w' => Mem w w' []) (by kernel_rfl) ?_
  have m := M.out.drew
  clear M
  have M := Lib.hid m
  clear m
  apply takeH (i := 0) 6 rfl (by kernel_rfl) (by kernel_rfl) (by kernel_rfl) (fun _ _ _ h => h) rfl (by first | exact M.out | exact M.out.take 0)
  case' hy => exact ylds _ _ rfl rfl Tryz.underlying2 rfl rfl (fun w' hS => (hS.arg H1.out).cellv (i := 0) rfl)
  try simp only [Act.put, List.getElem_toArray, List.getElem_cons_succ, List.getElem_cons_zero, List.setIfInBounds_toArray, List.set_cons_succ, List.set_cons_zero]
  apply takeH (i := 1) 7 rfl (by kernel_rfl) (by kernel_rfl) (by kernel_rfl) (fun _ _ _ h => h) rfl (by first | exact M.out | exact M.out.take 0)
  case' hy =>
    refine Or.inl ⟨by first | rfl | (go_simp; done), ?_⟩
    intro w hS
    clear hS
    go_simp
    try with_reducible rfl
  try simp only [Act.put, List.getElem_toArray, List.getElem_cons_succ, List.getElem_cons_zero, List.setIfInBounds_toArray, List.set_cons_succ, List.set_cons_zero]
  apply takeH (i := 3) 9 rfl (by kernel_rfl) (by kernel_rfl) (by kernel_rfl) (fun _ _ _ h => h) rfl (by first | exact M.out | exact M.out.take 0)
  case' hy => exact ylds _ _ rfl rfl Tryz.underlying2 rfl rfl (fun w' hS => (hS.arg H1.out).cellv (i := 0) rfl)
  try simp only [Act.put, List.getElem_toArray, List.getElem_cons_succ, List.getElem_cons_zero, List.setIfInBounds_toArray, List.set_cons_succ, List.set_cons_zero]
  apply takeH (i := 4) 10 rfl (by kernel_rfl) (by kernel_rfl) (by kernel_rfl) (fun _ _ _ h => h) rfl (by first | exact M.out | exact M.out.take 0)
  case' hy =>
    refine Or.inl ⟨by first | rfl | (go_simp; done), ?_⟩
    intro w hS
    clear hS
    go_simp
    try with_reducible rfl
  try simp only [Act.put, List.getElem_toArray, List.getElem_cons_succ, List.getElem_cons_zero, List.setIfInBounds_toArray, List.set_cons_succ, List.set_cons_zero]
  refine any1H 2 (by kernel_rfl) rfl (fun K hK => ?_)
  go_wp2_with (first | (go_at_call 87; go_must (first | (refine Calls.mono (calls_args (by with_reducible rfl) (S1.out _)) ?_) | (refine Calls.mono (calls_args (by with_reducible rfl) (S2.out _)) ?_)); rintro e w_ ⟨rfl, rfl⟩))
  refine onward_normal (hK _ _ ⟨(by first | exact M.out | exact M.out.take 0), ?_⟩)
  clear hK K
  try simp only [Act.put, List.getElem_toArray, List.getElem_cons_succ, List.getElem_cons_zero, List.setIfInBounds_toArray, List.set_cons_succ, List.set_cons_zero]
  refine any1H 5 (by kernel_rfl) rfl (fun K hK => ?_)
  go_wp2_with (first | (go_at_call 87; go_must (first | (refine Calls.mono (calls_args (by with_reducible rfl) (S1.out _)) ?_) | (refine Calls.mono (calls_args (by with_reducible rfl) (S2.out _)) ?_)); rintro e w_ ⟨rfl, rfl⟩))
  refine onward_normal (hK _ _ ⟨(by first | exact M.out | exact M.out.take 0), ?_⟩)
  clear hK K
  try simp only [Act.put, List.getElem_toArray, List.getElem_cons_succ, List.getElem_cons_zero, List.setIfInBounds_toArray, List.set_cons_succ, List.set_cons_zero]
  apply takeH (i := 6) 12 rfl (by kernel_rfl) (by kernel_rfl) (by kernel_rfl) (fun _ _ _ h => h) rfl (by first | exact M.out | exact M.out.take 0)
  case' hy =>
    refine Or.inl ⟨by first | rfl | (go_simp; done), ?_⟩
    intro w hS
    clear hS
    go_simp
    try with_reducible rfl
  try simp only [Act.put, List.getElem_toArray, List.getElem_cons_succ, List.getElem_cons_zero, List.setIfInBounds_toArray, List.set_cons_succ, List.set_cons_zero]
  apply takeH (i := 7) 5 rfl (by kernel_rfl) (by kernel_rfl) (by kernel_rfl) (fun _ _ _ h => h) rfl (by first | exact M.out | exact M.out.take 0)
  case' hy =>
    refine Or.inl ⟨by first | rfl | (go_simp; done), ?_⟩
    intro w hS
    clear hS
    go_simp
    try with_reducible rfl
  try simp only [Act.put, List.getElem_toArray, List.getElem_cons_succ, List.getElem_cons_zero, List.setIfInBounds_toArray, List.set_cons_succ, List.set_cons_zero]
  refine wpAnyH_done (by kernel_rfl) ?_ _
  all_goals
    go_wp2
    go_ret
    exact ⟨ret_bool (by rw [NL.out]), M.out⟩
set_option maxRecDepth 100000 in
set_option maxHeartbeats 1000000 in
theorem nearest_any (g : Nat) {t : TypeId} (F : Fld) (hF : F.ok) (c : Nat) (hc : c < 100) (w : World) (hb : Blk w g t F.cells) :
    Calls Tryz.prog 91 #[.pointer (some ⟨g, 0, none⟩), .int .i64 c, .agg (ofKd F 3).cells] w fun e w' => e = .returned (.int .i64 (pick (ofKd F 3).has (nearLt c) F.all)) ∧ Mem w w' [] := by
  have M := Lib.hid (Mem.start w)
  have HB := Lib.hid hb
  clear hb
  go_enter Tryz.func91, Tryz.ntmps91
  go_wp2_with (first
    | ((with_reducible refine gate_dst (N := 4) rfl ?_); go_must (refine M.out.ev_new rfl (by first | (go_simp; done) | (go_simp; rfl)) ?_); intro g4 w4 m; simp only [List.cons_append, List.nil_append] at m; have M := Lib.hid m; clear m)
    | ((with_reducible refine gate_dst (N := 5) rfl ?_); go_must (refine M.out.ev_new rfl (by first | (go_simp; done) | (go_simp; rfl)) ?_); intro g5 w5 m; simp only [List.cons_append, List.nil_append] at m; have M := Lib.hid m; clear m)
    | ((with_reducible refine gate_dst (N := 8) rfl ?_); go_must (refine M.out.ev_ldw 1 _ _ rfl rfl rfl Tryz.underlying40 rfl (by first | exact sz40 | (rw [S1.out]; exact sz40) | (rw [S2.out]; exact sz40) | (rw [S3.out]; exact sz40)) rfl ?_))
    | (go_at_call 148; go_must (refine (first_any g F hF (ofKd F 3) (ofKd_ok F 3) 153 #[.pointer (some ⟨g4, 0, none⟩)] (nearLt c) _ (M.out.arg HB.out) (fun _ _ => by go_simp) (fun i j hi hj _ _ w1 m1 => calls_caps2 (nearer_any g4 c i j hc hi hj w1 ((M.out.join m1).blk 0 rfl)))).mono ?_); rintro e w_ ⟨rfl, N_⟩; have m := M.out.join N_; clear N_; simp only [List.cons_append, List.nil_append, List.append_nil] at m; have M := Lib.hid m; clear m)
    )
  go_ret
  exact ⟨rfl, M.out.take 0⟩
set_option maxRecDepth 100000 in
set_option maxHeartbeats 1000000 in
theorem treeHas_any (g ga : Nat) {t ta : TypeId} (F : Fld) (hF : F.ok) (a : Int) (w : World) (hb : Blk w g t F.cells) (h1 : Blk w ga ta #[.int .i64 a]) :
    Calls Tryz.prog 90 #[.pointer (some ⟨g, 0, none⟩), .pointer (some ⟨ga, 0, none⟩)] w fun e w' => e = .returned (.bool (F.has a)) ∧ Mem w w' [] := by
  have M := Lib.hid (Mem.start w)
  have HB := Lib.hid hb
  have x1 := h1.cellv (i := 0) rfl
  clear hb h1
  go_enter Tryz.func90, Tryz.ntmps90
  go_wp2_with (first
    | (go_at_call 86; go_must (refine (has_any g F hF a _ HB.out).mono ?_); rintro e w_ ⟨rfl, rfl⟩)
    )
  go_ret
  exact ⟨rfl, M.out.take 0⟩
set_option maxRecDepth 100000 in
set_option maxHeartbeats 1000000 in
theorem TreeFor_any (F : Fld) (hF : F.ok) (hv : F.valid = true) (c : Nat) (hc : c < 100) (hh : F.has (c : Int) = true) (hk : F.kind c = 3) (w : World) :
    Calls Tryz.prog 27 #[.agg F.cells, .int .i64 c] w fun e w' => e = .returned (.tuple #[.int .i64 c, .int .i64 0]) ∧ Mem w w' [] := by
  have M := Lib.hid (Mem.start w)
  have HV := Lib.hid hv
  have HA := Lib.hid hh
  have NS := Lib.hid (near_self F hc hh hk)
  have c0 : ¬ ((c : Int) < 0) := by omega
  clear hv hh hk
  go_enter Tryz.func27, Tryz.ntmps27
  go_wp2_with (first
    | ((with_reducible refine gate_dst (N := 2) rfl ?_); go_must (refine M.out.ev_new rfl (by first | (go_simp; done) | (go_simp; rfl)) ?_); intro g2 w2 m; simp only [List.cons_append, List.nil_append] at m; have M := Lib.hid m; clear m; try have q1_0 := M.out.cell (j := 0) 1 rfl (by first | assumption | rfl))
    | ((with_reducible refine gate_dst (N := 3) rfl ?_); go_must (refine M.out.ev_new rfl (by first | (go_simp; done) | (go_simp; rfl)) ?_); intro g3 w3 m; simp only [List.cons_append, List.nil_append] at m; have M := Lib.hid m; clear m; try have q1_0 := M.out.cell (j := 0) 1 rfl (by first | assumption | rfl))
    | ((with_reducible refine gate_dst (N := 13) rfl ?_); go_must (refine M.out.ev_ld 1 _ _ rfl rfl rfl Tryz.underlying2 rfl rfl (by first | assumption | rfl) ?_))
    | (go_at_call 84; go_must (refine (fieldCode_any g2 F hF 90 #[.pointer (some ⟨g2, 0, none⟩), .pointer (some ⟨g3, 0, none⟩)] (F.has c) _ (M.out.blk 0 rfl) (fun _ _ => by go_simp) (fun w1 m1 => treeHas_any g2 g3 F hF c w1 ((M.out.join m1).blk 0 rfl) ((M.out.join m1).blk 1 rfl))).mono ?_); rintro e w_ ⟨rfl, N_⟩; have m := M.out.join N_; clear N_; simp only [List.cons_append, List.nil_append, List.append_nil] at m; have M := Lib.hid m; clear m; rw [HV.out, HA.out, show okCode true true = 0 from rfl])
    )
  refine region_anyH (fun w' => Mem w w' [.blk g2 29 F.cells, .blk g3 2 #[.int .i64 c]]) (by kernel_rfl) ?_
  have m := M.out.drew
  clear M
  have M := Lib.hid m
  clear m
  apply takeH (i := 0) 13 rfl (by kernel_rfl) (by kernel_rfl) (by kernel_rfl) (fun _ _ _ h => h) rfl (by first | exact M.out | exact M.out.take 2)
  case' hy => exact ylds _ _ rfl rfl Tryz.underlying2 rfl rfl (fun w' hS => hS.cell 1 rfl (by first | assumption | rfl))
  try simp only [Act.put, List.getElem_toArray, List.getElem_cons_succ, List.getElem_cons_zero, List.setIfInBounds_toArray, List.set_cons_succ, List.set_cons_zero]
  refine any1H 1 (by kernel_rfl) rfl (fun K hK => ?_)
  go_wp2_with (first | ((with_reducible refine gate_dst (N := 13) rfl ?_); go_must (refine M.out.ev_ld 1 _ _ rfl rfl rfl Tryz.underlying2 rfl rfl (by first | assumption | rfl) ?_)) | (go_at_call 67; go_must (refine (ofKind_any g2 F hF 3 _ (M.out.blk 0 rfl)).mono ?_); rintro e w_ ⟨rfl, N_⟩; have m := M.out.join N_; clear N_; simp only [List.cons_append, List.nil_append, List.append_nil] at m; have M := Lib.hid m; clear m) | (go_at_call 91; go_must (refine (nearest_any g2 F hF c hc _ (M.out.blk 0 rfl)).mono ?_); rintro e w_ ⟨rfl, N_⟩; have m := M.out.join N_; clear N_; simp only [List.cons_append, List.nil_append, List.append_nil] at m; have M := Lib.hid m; clear m; rw [NS.out]))
  refine onward_normal (hK _ _ ⟨(by first | exact M.out | exact M.out.take 2), ?_⟩)
  clear hK K
  try simp only [Act.put, List.getElem_toArray, List.getElem_cons_succ, List.getElem_cons_zero, List.setIfInBounds_toArray, List.set_cons_succ, List.set_cons_zero]
  refine any1H 2 (by kernel_rfl) rfl (fun K hK => ?_)
  go_wp2_with (first | ((with_reducible refine gate_dst (N := 13) rfl ?_); go_must (refine M.out.ev_ld 1 _ _ rfl rfl rfl Tryz.underlying2 rfl rfl (by first | assumption | rfl) ?_)) | (go_at_call 67; go_must (refine (ofKind_any g2 F hF 3 _ (M.out.blk 0 rfl)).mono ?_); rintro e w_ ⟨rfl, N_⟩; have m := M.out.join N_; clear N_; simp only [List.cons_append, List.nil_append, List.append_nil] at m; have M := Lib.hid m; clear m) | (go_at_call 91; go_must (refine (nearest_any g2 F hF c hc _ (M.out.blk 0 rfl)).mono ?_); rintro e w_ ⟨rfl, N_⟩; have m := M.out.join N_; clear N_; simp only [List.cons_append, List.nil_append, List.append_nil] at m; have M := Lib.hid m; clear m; rw [NS.out]))
  refine onward_normal (hK _ _ ⟨(by first | exact M.out | exact M.out.take 2), ?_⟩)
  clear hK K
  try simp only [Act.put, List.getElem_toArray, List.getElem_cons_succ, List.getElem_cons_zero, List.setIfInBounds_toArray, List.set_cons_succ, List.set_cons_zero]
  apply takeH (i := 3) 7 rfl (by kernel_rfl) (by kernel_rfl) (by kernel_rfl) (fun _ _ _ h => h) rfl (by first | exact M.out | exact M.out.take 2)
  case' hy =>
    refine Or.inl ⟨by first | rfl | (go_simp; done), ?_⟩
    intro w hS
    clear hS
    go_simp
    try with_reducible rfl
  try simp only [Act.put, List.getElem_toArray, List.getElem_cons_succ, List.getElem_cons_zero, List.setIfInBounds_toArray, List.set_cons_succ, List.set_cons_zero]
  refine wpAnyH_done (by kernel_rfl) ?_ _
  all_goals
    go_wp2
    go_ret2
    exact ⟨rfl, M.out.take 0⟩
end Go.Proofs.YtkomhngokcejbaaGreatDoor
namespace Go.Proofs.YtkomhngokcejbaaGreatDoor
set_option linter.unusedSimpArgs false
set_option linter.unusedVariables false
open Go.RowKit
attribute [local go_sem] cell?_mk frozen?_mk

end Go.Proofs.YtkomhngokcejbaaGreatDoor
namespace Go.Proofs.YtkomhngokcejbaaGreatDoor
set_option linter.unusedSimpArgs false
set_option linter.unusedVariables false
open Go.RowKit
attribute [local go_sem] cell?_mk frozen?_mk

def Flock.hunger (x : Flock) : Int := x.birds * x.eats
def Fld.eatN (F : Fld) (k : Nat) (m : Int) : Int := min m (F.seed k)
def Fld.eat (F : Fld) (k : Nat) (m : Int) : Fld := F.withSeed k (F.seed k - F.eatN k m)
end Go.Proofs.YtkomhngokcejbaaGreatDoor
namespace Go.Proofs.YtkomhngokcejbaaGreatDoor
set_option linter.unusedSimpArgs false
set_option linter.unusedVariables false
open Go.RowKit
attribute [local go_sem] cell?_mk frozen?_mk

end Go.Proofs.YtkomhngokcejbaaGreatDoor
namespace Go.Proofs.YtkomhngokcejbaaGreatDoor
set_option linter.unusedSimpArgs false
set_option linter.unusedVariables false
--GONE Visit
end Go.Proofs.YtkomhngokcejbaaGreatDoor
namespace Go.Proofs.YtkomhngokcejbaaGreatDoor
set_option linter.unusedSimpArgs false
set_option linter.unusedVariables false
open Go.RowKit
attribute [local go_sem] cell?_mk frozen?_mk

def eoCode (F : Fld) (fs : List Int) (x : Flock) : Int := if birdsOk F fs [x] = true then if choiceOf F fs x < 0 then 6 else if x.hunger = 0 then 4 else 0 else 1
def eoF (F : Fld) (fs : List Int) (x : Flock) : Fld := if eoCode F fs x = 0 then F.eat (choiceOf F fs x).toNat x.hunger else Fld.z
end Go.Proofs.YtkomhngokcejbaaGreatDoor
namespace Go.Proofs.YtkomhngokcejbaaGreatDoor
set_option linter.unusedSimpArgs false
set_option linter.unusedVariables false
open Go.RowKit
attribute [local go_sem] cell?_mk frozen?_mk

end Go.Proofs.YtkomhngokcejbaaGreatDoor
namespace Go.Proofs.YtkomhngokcejbaaGreatDoor
set_option linter.unusedSimpArgs false
set_option linter.unusedVariables false
open Go.RowKit
attribute [local go_sem] cell?_mk frozen?_mk

end Go.Proofs.YtkomhngokcejbaaGreatDoor
namespace Go.Proofs.YtkomhngokcejbaaGreatDoor
set_option linter.unusedSimpArgs false
set_option linter.unusedVariables false
open Go.RowKit

theorem Mem.row_le {w0 w : World} {L : List Ent} (M : Mem w0 w L) (i : Nat) {A : Option Addr} {m c : Nat} {e : TypeId} {sz n : Nat} {cs : List Value} (h : L[i]? = some (.row (.slice A m c) e sz n cs)) : n ≤ c ∧ m = n := by
  obtain ⟨A', c', he, hm, _⟩ := M.row_slice i h
  injection he with _ he2 he
  omega
end Go.Proofs.YtkomhngokcejbaaGreatDoor
namespace Go.Proofs.YtkomhngokcejbaaGreatDoor
set_option linter.unusedSimpArgs false
set_option linter.unusedVariables false
open Go.RowKit
attribute [local go_sem] cell?_mk frozen?_mk

end Go.Proofs.YtkomhngokcejbaaGreatDoor
namespace Go.Proofs.YtkomhngokcejbaaGreatDoor
set_option linter.unusedSimpArgs false
set_option linter.unusedVariables false
open Go.RowKit
attribute [local go_sem] cell?_mk frozen?_mk

end Go.Proofs.YtkomhngokcejbaaGreatDoor
namespace Go.Proofs.YtkomhngokcejbaaGreatDoor
set_option linter.unusedSimpArgs false
set_option linter.unusedVariables false
open Go.RowKit
attribute [local go_sem] cell?_mk frozen?_mk

end Go.Proofs.YtkomhngokcejbaaGreatDoor
namespace Go.Proofs.YtkomhngokcejbaaGreatDoor
set_option linter.unusedSimpArgs false
set_option linter.unusedVariables false
open Go.RowKit
attribute [local go_sem] cell?_mk frozen?_mk

def seedSum (F : Fld) : Nat → Int
  | 0 => 0
  | k + 1 => seedSum F k + F.seed k
def fdCode (F : Fld) (fs : List Int) (xs : List Flock) (d : Int) : Int := if birdsOk F fs xs = true then if inB d 0 60 = true then 0 else 2 else 1
/-- A call hands back a field, whole numbers of its own and a code. -/
def RetFI (w : World) (F : Fld) (vs : List Int) (code : Int) (e : Ending) (w' : World) : Prop :=
  ∃ A c, e = .returned (.tuple #[.agg F.cells, .slice A vs.length c, .int .i64 code]) ∧ vs.length ≤ c ∧ Mem w w' [.row (.slice A vs.length c) 2 1 vs.length (flat oneI vs)]
end Go.Proofs.YtkomhngokcejbaaGreatDoor
namespace Go.Proofs.YtkomhngokcejbaaGreatDoor
set_option linter.unusedSimpArgs false
set_option linter.unusedVariables false
open Go.RowKit
attribute [local go_sem] cell?_mk frozen?_mk

theorem Flock.ones (x : Flock) : ∀ v ∈ x.vals, v.oneCell' = true := by
  intro v hv
  simp only [Flock.vals, List.mem_cons, List.not_mem_nil, or_false] at hv
  rcases hv with rfl | rfl | rfl | rfl | rfl | rfl <;> rfl
def markFlock (k : Int) (i : Nat) : Flock := ⟨IntKind.i16.wrap (k + 6 * i), IntKind.i16.wrap (k + 6 * i + 1), IntKind.i16.wrap (k + 6 * i + 1 + 1), IntKind.i16.wrap (k + 6 * i + 1 + 1 + 1), IntKind.i16.wrap (k + 6 * i + 1 + 1 + 1 + 1), IntKind.i8.wrap (k + 6 * i + 1 + 1 + 1 + 1 + 1)⟩
def marksFlock (k : Int) (n : Nat) : List Flock := (List.range n).map (markFlock k)
def mixFlock (k : Int) (xs : List Flock) (i : Nat) : List Flock := (List.range i).map (markFlock k) ++ xs.drop i
end Go.Proofs.YtkomhngokcejbaaGreatDoor
namespace Go.Proofs.YtkomhngokcejbaaGreatDoor
set_option linter.unusedSimpArgs false
set_option linter.unusedVariables false
open Go.RowKit
attribute [local go_sem] cell?_mk frozen?_mk

set_option maxRecDepth 100000 in
set_option maxHeartbeats 1000000 in
theorem ValidFlocks_any (F : Fld) (hF : F.ok) (A : Option Addr) (n : Nat) (xs : List Flock) (hx : ∀ x ∈ xs, x.ok) (hl : xs.length ≤ 1048576) (w : World) (hs : Sl w 6 A xs.length (flat Flock.vals xs)) :
    Calls Tryz.prog 15 #[.agg F.cells, .slice A xs.length n] w fun e w' => e = .returned (.bool (F.valid && flocksOk F xs)) ∧ Mem w w' [] := by
  have M := Lib.hid (Mem.start w)
  have HX := Lib.hid hx
  have HS := Lib.hid hs
  have S1 := Lib.hid (Fld.size hF.toLen)
  have O1 := Lib.hid (Fld.one F)
  clear hs hx
  cases hv : F.valid <;>
  · have HV := Lib.hid hv
    clear hv
    go_enter Tryz.func15, Tryz.ntmps15
    go_wp2_with (first
      | ((with_reducible refine gate_dst (N := 2) rfl ?_); go_must (refine M.out.ev_new rfl (by first | (go_simp; done) | (go_simp; rfl)) ?_); intro g2 w2 m; simp only [List.cons_append, List.nil_append] at m; have M := Lib.hid m; clear m)
      | ((with_reducible refine gate_dst (N := 5) rfl ?_); go_must (refine M.out.ev_ldw 0 _ _ rfl rfl rfl Tryz.underlying29 rfl (by first | exact sz29 | (rw [S1.out]; exact sz29) | (rw [S2.out]; exact sz29) | (rw [S3.out]; exact sz29)) rfl ?_))
      | (go_at_call 75; go_must (refine (ValidField_any F hF _).mono ?_); rintro e w_ ⟨rfl, N_⟩; have m := M.out.join N_; clear N_; simp only [List.cons_append, List.nil_append, List.append_nil] at m; have M := Lib.hid m; clear m; rw [HV.out])
      | (go_at_call 76; go_must (refine (areFlocks_any _ F hF A n xs HX.out hl _ (M.out.blk 0 rfl) (M.out.sl HS.out)).mono ?_); rintro e w_ ⟨rfl, N_⟩; have m := M.out.join N_; clear N_; simp only [List.cons_append, List.nil_append, List.append_nil] at m; have M := Lib.hid m; clear m)
      )
    go_ret
    exact ⟨ret_bool (by simp), M.out.take 0⟩
def flIdx (F : Fld) (xs : List Flock) (i : Int) : Bool := (F.valid && flocksOk F xs) && inB i 0 (xs.length - 1)
def flCode (F : Fld) (xs : List Flock) (i : Int) (p : Bool) : Int := if (F.valid && flocksOk F xs) = true then if (inB i 0 (xs.length - 1) && p) = true then 0 else 2 else 1
def mvCode (F : Fld) (xs : List Flock) (i c : Int) : Int := if flCode F xs i (F.has c) ≠ 0 then flCode F xs i (F.has c) else if F.kind c.toNat = 3 then 0 else 4
def mvAt (xs : List Flock) (j : Nat) (c : Int) : List Flock := match xs[j]? with | some x => xs.set j { x with tree := c } | none => xs
def mvRes (F : Fld) (xs : List Flock) (i c : Int) : List Flock := if mvCode F xs i c = 0 then mvAt xs i.toNat c else []
end Go.Proofs.YtkomhngokcejbaaGreatDoor
