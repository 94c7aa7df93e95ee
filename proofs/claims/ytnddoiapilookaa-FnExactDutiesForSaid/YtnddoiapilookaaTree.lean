/- Targets with trees; the code of prices and targets: the walks of both. -/
import Derived.Test.YtnddoiapilookaaTargets
import Derived.Test.YtnddoiapilookaaCost2
import Derived.Test.YtnddoiapilookaaAll
import Derived.Test.YtnddoiapilookaaHeld
import Derived.Test.YtnddoiapilookaaNeq
namespace Go.Proofs.Ytnddoiapilookaa
set_option linter.unusedSimpArgs false
set_option linter.unusedVariables false
open Go.RowKit
attribute [local go_sem] cell?_mk frozen?_mk
--ONES exact Cs.one _
theorem Sl.range {w : World} {sz b off n : Nat} {cs : List Value} (h : Sl w sz (some ⟨b, off, none⟩) n cs) (hn : 0 < n) : w.rangeAt b off cs := by
  obtain ⟨b', off', he, hr⟩ := h.2 hn
  injection he with he
  injection he with h1 h2
  subst h1 h2
  exact hr
theorem mem_all {c : Cs} {k : Nat} : k ∈ c.all ↔ k < 100 ∧ c.has k = true := by
  rw [Cs.all, Cs.below, List.mem_filter, List.mem_range]
theorem all_congr' {a b : Cs} (h : ∀ k, k < 100 → a.has k = b.has k) : a.all = b.all := by
  unfold Cs.all Cs.below
  refine List.filter_congr fun k hk => h k (List.mem_range.1 hk)
/-- Whether a target has a tree. -/
def wood (F : Fld) (c : Cs) : Bool := c.all.any fun k => F.kind k == 3
theorem wood_set {F : Fld} {c : Cs} (hc : c.ok) (h : ∀ k ∈ c.all, F.has k = true) : (c.both (ofKd F 3)).same Cs.z = !wood F c := by
  rw [Bool.eq_iff_iff, Cs.same_iff, Bool.not_eq_true', wood, List.any_eq_false]
  constructor
  · intro h0 k hk
    obtain ⟨k1, k2⟩ := mem_all.1 hk
    have := Cs.both_has c (ofKd F 3) k1
    rw [h0, k2, ofKd_has F 3 k1, h k hk] at this
    intro hq
    rw [hq] at this
    simp [Cs.has, Cs.z] at this
  · intro h0
    refine Cs.ext_has (Cs.both_ok hc) Cs.z_ok fun k hk => ?_
    rw [show Cs.z.has k = false by unfold Cs.has Cs.z; split <;> simp]
    by_cases h1 : k < 100
    · rw [Cs.both_has c _ h1, ofKd_has F 3 h1]
      cases hk2 : c.has k
      · rfl
      · have := h0 k (mem_all.2 ⟨h1, hk2⟩)
        rw [Bool.not_eq_true] at this
        rw [this]
        simp
    · unfold Cs.both
      exact Cs.cut_small _ (by omega) hk
set_option maxRecDepth 100000 in
set_option maxHeartbeats 2000000 in
theorem haveTree_any (g : Nat) {t : TypeId} (F : Fld) (hF : F.ok) (c : Cs) (hc : c.ok) (hin : ∀ k ∈ c.all, F.has k = true) (w : World) (hb : Blk w g t F.cells) :
    Calls Try.prog 88 #[.pointer (some ⟨g, 0, none⟩), .agg c.cells] w fun e w' => e = .returned (.bool (wood F c)) ∧ Mem w w' [] := by
  have M := Lib.hid (Mem.start w)
  have HB := Lib.hid hb
  have heq := neqCs (c.both (ofKd F 3)) Cs.z
  rw [wood_set hc hin, Bool.not_not] at heq
  change ∀ w, (binOp .neq 51 (.agg (c.both (ofKd F 3)).cells) (.agg #[.int .u64 0, .int .u64 0])).run Try.prog w = _ at heq
  clear hb
  go_enter Try.func88, Try.ntmps88
  go_wp2_with (first
    | ((with_reducible refine gate_dst (N := 3) rfl ?_); go_must (refine M.out.ev_new rfl (by first | (go_simp; done) | (go_simp; rfl)) ?_); intro g3 w3 m; simp only [List.cons_append, List.nil_append] at m; have M := Lib.hid m; clear m)
    | ((with_reducible refine gate_dst (N := 5) rfl ?_); go_must (refine M.out.ev_ldw 0 _ _ rfl rfl rfl Try.underlying51 rfl (by first | exact sz51 | (rw [S1.out]; exact sz51) | (rw [S2.out]; exact sz51) | (rw [S3.out]; exact sz51)) rfl ?_))
    )
  refine region_anyH (fun w' => Mem w w' [.blk g3 51 c.cells]) (by kernel_rfl) ?_
  have m := M.out.drew
  clear M
  have M := Lib.hid m
  clear m
  apply takeH (i := 0) 5 rfl (by kernel_rfl) (by kernel_rfl) (by kernel_rfl) (fun _ _ _ h => h) rfl (by first | exact M.out | exact M.out.take 1)
  case' hy => exact yldw _ _ rfl rfl Try.underlying51 rfl (by first | exact sz51 | (rw [S1.out]; exact sz51) | (rw [S2.out]; exact sz51) | (rw [S3.out]; exact sz51)) rfl (fun w' hS => hS.blk 0 rfl)
  try simp only [Act.put, List.getElem_toArray, List.getElem_cons_succ, List.getElem_cons_zero, List.setIfInBounds_toArray, List.set_cons_succ, List.set_cons_zero]
  apply takeH (i := 1) 6 rfl (by kernel_rfl) (by kernel_rfl) (by kernel_rfl) (fun _ _ _ h => h) rfl (by first | exact M.out | exact M.out.take 1)
  case' hy =>
    refine Or.inl ⟨by first | rfl | (go_simp; done), ?_⟩
    intro w hS
    clear hS
    go_simp
    try with_reducible rfl
  try simp only [Act.put, List.getElem_toArray, List.getElem_cons_succ, List.getElem_cons_zero, List.setIfInBounds_toArray, List.set_cons_succ, List.set_cons_zero]
  apply takeH (i := 4) 9 rfl (by kernel_rfl) (by kernel_rfl) (by kernel_rfl) (fun _ _ _ h => h) rfl (by first | exact M.out | exact M.out.take 1)
  case' hy =>
    refine Or.inl ⟨by first | rfl | (go_simp; done), ?_⟩
    intro w hS
    clear hS
    go_simp
    try with_reducible rfl
  try simp only [Act.put, List.getElem_toArray, List.getElem_cons_succ, List.getElem_cons_zero, List.setIfInBounds_toArray, List.set_cons_succ, List.set_cons_zero]
  refine any1H 2 (by kernel_rfl) rfl (fun K hK => ?_)
  go_wp2_with (first | ((with_reducible refine gate_dst (N := 5) rfl ?_); go_must (refine M.out.ev_ldw 0 _ _ rfl rfl rfl Try.underlying51 rfl (by first | exact sz51 | (rw [S1.out]; exact sz51) | (rw [S2.out]; exact sz51) | (rw [S3.out]; exact sz51)) rfl ?_)) | (go_at_call 112; go_must (refine (ofKind_any g F hF 3 _ (M.out.arg HB.out)).mono ?_); rintro e w_ ⟨rfl, N_⟩; have m := M.out.join N_; clear N_; simp only [List.cons_append, List.nil_append, List.append_nil] at m; have M := Lib.hid m; clear m) | (go_at_call 77; go_must (refine (BothOf_any _ _ hc (ofKd_ok F 3) _).mono ?_); rintro e w_ ⟨rfl, N_⟩; have m := M.out.join N_; clear N_; simp only [List.cons_append, List.nil_append, List.append_nil] at m; have M := Lib.hid m; clear m))
  refine onward_normal (hK _ _ ⟨(by first | exact M.out | exact M.out.take 1), ?_⟩)
  clear hK K
  try simp only [Act.put, List.getElem_toArray, List.getElem_cons_succ, List.getElem_cons_zero, List.setIfInBounds_toArray, List.set_cons_succ, List.set_cons_zero]
  refine any1H 3 (by kernel_rfl) rfl (fun K hK => ?_)
  go_wp2_with (first | ((with_reducible refine gate_dst (N := 5) rfl ?_); go_must (refine M.out.ev_ldw 0 _ _ rfl rfl rfl Try.underlying51 rfl (by first | exact sz51 | (rw [S1.out]; exact sz51) | (rw [S2.out]; exact sz51) | (rw [S3.out]; exact sz51)) rfl ?_)) | (go_at_call 112; go_must (refine (ofKind_any g F hF 3 _ (M.out.arg HB.out)).mono ?_); rintro e w_ ⟨rfl, N_⟩; have m := M.out.join N_; clear N_; simp only [List.cons_append, List.nil_append, List.append_nil] at m; have M := Lib.hid m; clear m) | (go_at_call 77; go_must (refine (BothOf_any _ _ hc (ofKd_ok F 3) _).mono ?_); rintro e w_ ⟨rfl, N_⟩; have m := M.out.join N_; clear N_; simp only [List.cons_append, List.nil_append, List.append_nil] at m; have M := Lib.hid m; clear m))
  refine onward_normal (hK _ _ ⟨(by first | exact M.out | exact M.out.take 1), ?_⟩)
  clear hK K
  try simp only [Act.put, List.getElem_toArray, List.getElem_cons_succ, List.getElem_cons_zero, List.setIfInBounds_toArray, List.set_cons_succ, List.set_cons_zero]
  apply takeH (i := 5) 10 rfl (by kernel_rfl) (by kernel_rfl) (by kernel_rfl) (fun _ _ _ h => h) rfl (by first | exact M.out | exact M.out.take 1)
  case' hy =>
    refine Or.inl ⟨by first | rfl | (go_simp; done), ?_⟩
    intro w hS
    clear hS
    go_simp
    try with_reducible rfl
  try simp only [Act.put, List.getElem_toArray, List.getElem_cons_succ, List.getElem_cons_zero, List.setIfInBounds_toArray, List.set_cons_succ, List.set_cons_zero]
  apply takeH (i := 6) 4 rfl (by kernel_rfl) (by kernel_rfl) (by kernel_rfl) (fun _ _ _ h => h) rfl (by first | exact M.out | exact M.out.take 1)
  case' hy =>
    refine Or.inl ⟨by first | rfl | (go_simp; done), ?_⟩
    intro w hS
    clear hS
    go_simp
    try with_reducible rfl
  try simp only [Act.put, List.getElem_toArray, List.getElem_cons_succ, List.getElem_cons_zero, List.setIfInBounds_toArray, List.set_cons_succ, List.set_cons_zero]
  refine wpAnyH_done (by kernel_rfl) ?_ _
  all_goals
    go_wp2
    go_ret
    exact ⟨rfl, M.out.take 0⟩
set_option maxRecDepth 100000 in
set_option maxHeartbeats 2000000 in
theorem l04Wood_any (g h : Nat) {t t' : TypeId} (F : Fld) (hF : F.ok) (c : Cs) (hc : c.ok) (w : World) (hb : Blk w g t F.cells) (hcb : Blk w h t' c.cells) :
    Calls Try.prog 84 #[.pointer (some ⟨g, 0, none⟩), .pointer (some ⟨h, 0, none⟩)] w fun e w' => e = .returned (.bool (wood F c)) ∧ Mem w w' [] := by
  have M := Lib.hid (Mem.start w)
  have HB := Lib.hid hb
  have HCB := Lib.hid hcb
  have hcl : c.all.length ≤ 100 := c.below_len 100
  clear hb hcb
  go_enter Try.func84, Try.ntmps84
  go_wp2_with (first
    | (go_at_call 86; go_must (refine (l01List_any h c hc _ (M.out.arg HCB.out)).mono ?_); rintro e w_ ⟨A_, c_, rfl, hc_, N_⟩; have m := M.out.join N_; clear N_; simp only [List.cons_append, List.nil_append, List.append_nil] at m; have M := Lib.hid m; clear m)
    )
  go_loopw [6] (fun v wr => ∃ k : Nat, k ≤ c.all.length ∧ v = .int .i64 k ∧ ((c.all.take k).any fun k => F.kind k == 3) = false ∧ Mem w wr [.row (.slice A_ c.all.length c_) 2 1 c.all.length (flat one64 c.all)])
    (fun v _ => c.all.length - (intOf v).toNat)
  case atStart => exact ⟨0, by omega, rfl, rfl, M.out⟩
  case round =>
    clear M
    obtain ⟨k, hk, rfl, hany, m⟩ := hrel
    have M := Lib.hid m
    have HA := Lib.hid hany
    clear m hany
    by_cases hlt : k < c.all.length
    · obtain ⟨b, off, rfl, hr⟩ := (M.out.slof 0 rfl).2 (by omega)
      have hxk : c.all[k]? = some c.all[k] := List.getElem?_eq_getElem hlt
      have R := range_at one64_len hr hxk
      have HTK := Lib.hid (List.take_succ_eq_append_getElem hlt)
      have HME := Lib.hid (List.getElem_mem hlt)
      have hj2 := (mem_all.1 (List.getElem_mem hlt)).1
      obtain ⟨j, hj⟩ : ∃ j, j = c.all[k] := ⟨_, rfl⟩
      rw [← hj] at R HTK HME hj2
      have x0 : wr.cell? ⟨b, off + k, none⟩ = some (.int .i64 j) := by simpa [nat64] using R 0 _ rfl
      have i0 : (0 : Int) ≤ (k : Int) := by omega
      have i1 : (k : Int) < (c.all.length : Int) := by omega
      have j0 : (0 : Int) ≤ (j : Int) := by omega
      have j1 : (j : Int) < 100 := by omega
      have y4 := (M.out.arg HB.out).cellv (Fld.cellK hF.toLen (k := j) hj2)
      clear hr hxk R hj
      cases hq : (F.kind j == 3)
      all_goals
        have HQ := Lib.hid hq
        go_wp2
        go_quiet (fail)
        have M := Lib.hid (M.out.drewN nq)
        go_wp2
      · refine ⟨⟨k + 1, by omega, by go_num, ?_, M.out⟩, by simp [intOf]; omega⟩
        rw [HTK.out, List.any_append, HA.out]
        simp [HQ.out]
      · go_ret
        refine ⟨ret_bool ?_, M.out.take 0⟩
        symm
        rw [wood, List.any_eq_true]
        exact ⟨j, HME.out, HQ.out⟩
    · obtain rfl : k = c.all.length := by omega
      go_wp2
      go_ret
      refine ⟨ret_bool ?_, M.out.take 0⟩
      have := HA.out
      rw [List.take_length] at this
      rw [wood, this]
set_option maxRecDepth 100000 in
set_option maxHeartbeats 2000000 in
theorem l04Priced_any (g h : Nat) {t t' : TypeId} (F : Fld) (hF : F.ok) (p : Prices) (hp : p.ok) (c : Cs) (hc : c.ok) (w : World) (hb : Blk w g t F.cells) (hcb : Blk w h t' c.cells) :
    Calls Try.prog 83 #[.pointer (some ⟨g, 0, none⟩), .agg p.vals.toArray, .pointer (some ⟨h, 0, none⟩)] w fun e w' => e = .returned (.int .i64 (prCode F p [] c)) ∧ Mem w w' [] := by
  have M := Lib.hid (Mem.start w)
  have HB := Lib.hid hb
  have HCB := Lib.hid hcb
  clear hb hcb
  cases hq : p.good
  all_goals
    have HQ := Lib.hid hq
    have HR := Lib.hid (show prCode F p [] c = if p.good = true then ntCode F [] c else 1 from rfl)
    clear hq
    go_enter Try.func83, Try.ntmps83
    go_wp2_with (first
      | ((with_reducible refine gate_dst (N := 4) rfl ?_); go_must (refine M.out.ev_new rfl (by first | (go_simp; done) | (go_simp; rfl)) ?_); intro g4 w4 m; simp only [List.cons_append, List.nil_append] at m; have M := Lib.hid m; clear m)
      | ((with_reducible refine gate_dst (N := 7) rfl ?_); go_must (refine M.out.ev_ldw 0 _ _ rfl rfl rfl Try.underlying42 rfl (by first | exact sz42 | (rw [S1.out]; exact sz42) | (rw [S2.out]; exact sz42) | (rw [S3.out]; exact sz42)) rfl ?_))
      | (go_at_call 62; go_must (refine (l04Prices_any p hp _).mono ?_); rintro e w_ ⟨rfl, N_⟩; have m := M.out.join N_; clear N_; simp only [List.cons_append, List.nil_append, List.append_nil] at m; have M := Lib.hid m; clear m; rw [HQ.out])
      | (go_at_call 76; go_must (refine (l04Targets_any g h F hF none 0 [] (fun _ h => absurd h (by simp)) (by simp) c hc _ (M.out.arg HB.out) Sl.nil_ (M.out.arg HCB.out)).mono ?_); rintro e w_ ⟨rfl, N_⟩; have m := M.out.join N_; clear N_; simp only [List.cons_append, List.nil_append, List.append_nil] at m; have M := Lib.hid m; clear m)
      )
    go_ret
    exact ⟨ret_int (by rw [HR.out, HQ.out]; rfl), M.out.take 0⟩
set_option maxRecDepth 100000 in
set_option maxHeartbeats 2000000 in
theorem pricesNil_any (g : Nat) {t : TypeId} (F : Fld) (hF : F.ok) (p : Prices) (hp : p.ok) (c : Cs) (hc : c.ok) (w : World) (hb : Blk w g t F.cells) :
    Calls Try.prog 74 #[.pointer (some ⟨g, 0, none⟩), .agg p.vals.toArray, .slice none 0 0, .agg c.cells] w fun e w' => e = .returned (.int .i64 (prCode F p [] c)) ∧ Mem w w' [] :=
  pricesCode_any g F hF p hp none 0 [] (fun _ h => absurd h (by simp)) (by simp) c hc w hb Sl.nil_
set_option maxRecDepth 100000 in
set_option maxHeartbeats 1000000 in
theorem l01Mask_any (c : Cs) (hc : c.ok) (w : World) :
    Calls Try.prog 85 #[.agg c.cells] w fun e w' => e = .returned (.agg c.cut.cells) ∧ Mem w w' [] := by
  have M := Lib.hid (Mem.start w)
  have hb1 := bits_and_u64_nat c.hi 68719476735 hc.h (by decide)
  have O1 := Lib.hid (Cs.one c.cut)
  have q0 : c.cells[0]? = some (.int .u64 c.lo) := rfl
  have q1 : c.cells[1]? = some (.int .u64 c.hi) := rfl
  rw [show ((68719476735 : Nat) : Int) = 68719476735 from rfl] at hb1
  go_enter Try.func85, Try.ntmps85
  go_wp2_with (first
    | ((with_reducible refine gate_dst (N := 1) rfl ?_); go_must (refine M.out.ev_new rfl (by first | (go_simp; done) | (go_simp; rfl)) ?_); intro g1 w1 m; simp only [List.cons_append, List.nil_append] at m; have M := Lib.hid m; clear m)
    | ((with_reducible refine gate_dst (N := 2) rfl ?_); go_must (refine M.out.ev_new rfl (by first | (go_simp; done) | (go_simp; rfl)) ?_); intro g2 w2 m; simp only [List.cons_append, List.nil_append] at m; have M := Lib.hid m; clear m)
    | ((with_reducible refine gate_dst (N := 4) rfl ?_); go_must (refine M.out.ev_ld 0 _ _ rfl rfl rfl Try.underlying49 rfl rfl (by first | assumption | rfl) ?_))
    | ((with_reducible refine gate_dst (N := 6) rfl ?_); go_must (refine M.out.ev_ld 0 _ _ rfl rfl rfl Try.underlying49 rfl rfl (by first | assumption | rfl) ?_))
    | ((with_reducible refine gate_store (x := .tmp 2) rfl ?_); go_must (refine M.out.ev_stw 1 _ _ _ rfl rfl rfl rfl _ rfl (by first | rfl | (simp only [S1.out]; rfl) | (simp only [S1.out, S2.out]; rfl) | (simp only [S3.out]; rfl) | (simp only [S1.out, S2.out, S3.out]; rfl)) (by first | exact sz51 | (rw [S1.out]; exact sz51) | (rw [S2.out]; exact sz51) | (rw [S3.out]; exact sz51)) (by first | exact ints_one _ _ | exact Fld.one _ | exact O1.out | exact Cs.one _ | rfl | (simp [Value.oneCell']; done)) rfl ?_); intro wn m; simp only [List.set_cons_succ, List.set_cons_zero, List.setIfInBounds_toArray] at m; have M := Lib.hid m; clear m)
    )
  exact ret_cell rfl (M.out.blk 1 rfl) Try.underlying51 rfl sz51 rfl ⟨rfl, M.out.take 0⟩
theorem prCode_0 {F : Fld} {p : Prices} {xs : List Net} {c : Cs} (h : prCode F p xs c = 0) : p.good = true ∧ ntCode F xs c = 0 := by
  unfold prCode at h
  split at h
  · rename_i hg
    exact ⟨hg, h⟩
  · cases h
theorem cut_all (c : Cs) : c.cut.all = c.all := all_congr' fun k hk => Cs.cut_has c hk
end Go.Proofs.Ytnddoiapilookaa
