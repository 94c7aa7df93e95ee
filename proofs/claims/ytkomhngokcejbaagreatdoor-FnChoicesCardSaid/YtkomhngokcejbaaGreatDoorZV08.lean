/- Texts of a proof, laid together: Choice. -/
import Derived.Test.YtkomhngokcejbaaGreatDoorZV06
import Derived.Test.YtkomhngokcejbaaGreatDoorZV07
namespace Go.Proofs.YtkomhngokcejbaaGreatDoor
set_option linter.unusedSimpArgs false
set_option linter.unusedVariables false
open Go.RowKit
attribute [local go_sem] cell?_mk frozen?_mk

theorem calls_caps2 {P : Program} {f : FuncId} {x y : Value} {caps : List Value} {w : World} {Q : Ending → World → Prop} (h : Calls P f (x :: y :: caps).toArray w Q) : Calls P f (#[x, y] ++ caps.toArray) w Q := by simpa using h
set_option maxRecDepth 100000 in
set_option maxHeartbeats 2000000 in
theorem first_any (g : Nat) {t : TypeId} (F : Fld) (hF : F.ok) (c : Cs) (hc : c.ok) (f : FuncId) (caps : Array Value) (lt : Nat → Nat → Bool) (w : World) (hb : Blk w g t F.cells)
    (HF : ∀ (vs : Array Value) (w : World), Sem.run Tryz.prog (callFunc f vs) w = Result.ok (Next.enter f vs) w)
    (H : ∀ a b : Nat, a < 100 → b < 100 → c.has a = true → c.has b = true → ∀ w1, Mem w w1 [] → Calls Tryz.prog f (#[.int .i64 a, .int .i64 b] ++ caps) w1 fun e w' => e = .returned (.bool (lt a b)) ∧ Mem w1 w' []) :
    Calls Tryz.prog 148 #[.pointer (some ⟨g, 0, none⟩), .agg c.cells, .func (.func f) #[] caps] w fun e w' => e = .returned (.int .i64 (pick c.has lt F.all)) ∧ Mem w w' [] := by
  have M := Lib.hid (Mem.start w)
  have HB := Lib.hid hb
  have HH := Lib.hid H
  have HFF := Lib.hid hF
  have O1 := Lib.hid (Cs.one c)
  clear hb H hF
  go_enter Tryz.func148, Tryz.ntmps148
  go_wp2_with (first
    | ((with_reducible refine gate_dst (N := 4) rfl ?_); go_must (refine M.out.ev_new rfl (by first | (go_simp; done) | (go_simp; rfl)) ?_); intro g4 w4 m; simp only [List.cons_append, List.nil_append] at m; have M := Lib.hid m; clear m)
    | ((with_reducible refine gate_dst (N := 17) rfl ?_); go_must (refine M.out.ev_ldw 0 _ _ rfl rfl rfl Tryz.underlying40 rfl (by first | exact sz40 | (rw [S1.out]; exact sz40) | (rw [S2.out]; exact sz40) | (rw [S3.out]; exact sz40)) rfl ?_))
    | (go_at_call 175; go_must (refine (cells_any g F HFF.out _ (M.out.arg HB.out)).mono ?_); rintro e w_ ⟨A_, c_, rfl, hc_, N_⟩; have m := M.out.join N_; clear N_; simp only [List.cons_append, List.nil_append, List.append_nil] at m; have M := Lib.hid m; clear m)
    )
  go_loopw [7, 13] (fun u v wr => ∃ k : Nat, k ≤ F.all.length ∧ v = .int .i64 k ∧ u = .int .i64 (pick c.has lt (F.all.take k)) ∧ Mem w wr [.blk g4 40 c.cells, .row (.slice A_ F.all.length c_) 2 1 F.all.length (flat one64 F.all)])
    (fun _ v _ => F.all.length - (intOf v).toNat)
  case atStart => exact ⟨0, by omega, rfl, rfl, M.out⟩
  case round =>
    clear M
    obtain ⟨k, hk, rfl, rfl, m⟩ := hrel
    have M := Lib.hid m
    clear m
    have hal : F.all.length ≤ 100 := F.below_len 100
    by_cases hlt : k < F.all.length
    · obtain ⟨b, off, rfl, hr⟩ := (M.out.slof 1 rfl).2 (by omega)
      have hxk : F.all[k]? = some F.all[k] := List.getElem?_eq_getElem hlt
      have hmem := Fld.all_has (List.getElem_mem hlt)
      have hpk := pick_of c.has lt (F.all.take k)
      obtain ⟨j, hj⟩ : ∃ j, j = F.all[k] := ⟨_, rfl⟩
      have R := range_at one64_len hr hxk
      have HT := Lib.hid (show pick c.has lt (F.all.take (k + 1)) = pickStep c.has lt (pick c.has lt (F.all.take k)) j by rw [List.take_succ_eq_append_getElem hlt, pick_snoc, hj])
      rw [← hj] at R hmem
      have x0 : wr.cell? ⟨b, off + k, none⟩ = some (.int .i64 j) := by simpa [nat64] using R 0 _ rfl
      obtain ⟨j0, j1⟩ := hmem
      have i0 : (0 : Int) ≤ (j : Int) := by omega
      obtain ⟨B, hB⟩ : ∃ B, B = pick c.has lt (F.all.take k) := ⟨_, rfl⟩
      rw [← hB] at HT hpk
      rw [← hB]
      have HM := Lib.hid (show ∀ x ∈ F.all.take k, x < 100 from fun x hx => (Fld.all_has (List.mem_of_mem_take hx)).1)
      clear hr hxk R hj j1 hB
      cases hp : c.has j
      · have HP := Lib.hid hp
        clear hp hpk
        go_wp2_with (first
          | ((with_reducible refine gate_dst (N := 4) rfl ?_); go_must (refine M.out.ev_new rfl (by first | (go_simp; done) | (go_simp; rfl)) ?_); intro g4 w4 m; simp only [List.cons_append, List.nil_append] at m; have M := Lib.hid m; clear m)
          | ((with_reducible refine gate_dst (N := 17) rfl ?_); go_must (refine M.out.ev_ldw 0 _ _ rfl rfl rfl Tryz.underlying40 rfl (by first | exact sz40 | (rw [S1.out]; exact sz40) | (rw [S2.out]; exact sz40) | (rw [S3.out]; exact sz40)) rfl ?_))
          | (go_at_call 154; go_must (refine (HasCell_any c hc j j0 _).mono ?_); rintro e w_ ⟨rfl, N_⟩; have m := M.out.join N_; clear N_; simp only [List.cons_append, List.nil_append, List.append_nil] at m; have M := Lib.hid m; clear m; rw [HP.out])
          )
        refine ⟨⟨k + 1, by omega, by go_num, ?_, M.out⟩, by simp [intOf]; omega⟩
        rw [HT.out]
        simp [pickStep, HP.out]
      · have HP := Lib.hid hp
        clear hp
        rcases hpk with hpk | ⟨z, hz, hz2, hpk⟩
        · subst hpk
          go_wp2_with (first
            | ((with_reducible refine gate_dst (N := 4) rfl ?_); go_must (refine M.out.ev_new rfl (by first | (go_simp; done) | (go_simp; rfl)) ?_); intro g4 w4 m; simp only [List.cons_append, List.nil_append] at m; have M := Lib.hid m; clear m)
            | ((with_reducible refine gate_dst (N := 17) rfl ?_); go_must (refine M.out.ev_ldw 0 _ _ rfl rfl rfl Tryz.underlying40 rfl (by first | exact sz40 | (rw [S1.out]; exact sz40) | (rw [S2.out]; exact sz40) | (rw [S3.out]; exact sz40)) rfl ?_))
            | (go_at_call 154; go_must (refine (HasCell_any c hc j j0 _).mono ?_); rintro e w_ ⟨rfl, N_⟩; have m := M.out.join N_; clear N_; simp only [List.cons_append, List.nil_append, List.append_nil] at m; have M := Lib.hid m; clear m; rw [HP.out])
            )
          refine ⟨⟨k + 1, by omega, by go_num, ?_, M.out⟩, by simp [intOf]; omega⟩
          rw [HT.out]
          simp [pickStep, HP.out]
        · subst hpk
          have z0 : z < 100 := HM.out z hz
          have i1 : ¬ ((z : Int) < 0) := by omega
          have HZ := Lib.hid hz2
          clear hz hz2
          cases hl : lt j z
          all_goals
            have HL := Lib.hid hl
            clear hl
            go_wp2_with (first
              | ((with_reducible refine gate_dst (N := 4) rfl ?_); go_must (refine M.out.ev_new rfl (by first | (go_simp; done) | (go_simp; rfl)) ?_); intro g4 w4 m; simp only [List.cons_append, List.nil_append] at m; have M := Lib.hid m; clear m)
              | ((with_reducible refine gate_dst (N := 17) rfl ?_); go_must (refine M.out.ev_ldw 0 _ _ rfl rfl rfl Tryz.underlying40 rfl (by first | exact sz40 | (rw [S1.out]; exact sz40) | (rw [S2.out]; exact sz40) | (rw [S3.out]; exact sz40)) rfl ?_))
              | (go_at_call 154; go_must (refine (HasCell_any c hc j j0 _).mono ?_); rintro e w_ ⟨rfl, N_⟩; have m := M.out.join N_; clear N_; simp only [List.cons_append, List.nil_append, List.append_nil] at m; have M := Lib.hid m; clear m; rw [HP.out])
              | (refine (HH.out j z j0 z0 HP.out HZ.out _ (M.out.take 0)).mono ?_; rintro e w_ ⟨rfl, N_⟩; have m := M.out.join N_; clear N_; simp only [List.cons_append, List.nil_append, List.append_nil] at m; have M := Lib.hid m; clear m; rw [HL.out])
              )
            refine ⟨⟨k + 1, by omega, by go_num, ?_, M.out⟩, by simp [intOf]; omega⟩
            rw [HT.out]
            first | (simp [pickStep, HP.out, HL.out]; done) | (simp [pickStep, HP.out, HL.out]; omega)
    · obtain rfl : k = F.all.length := by omega
      rw [List.take_length]
      go_wp2
      go_ret
      exact ⟨rfl, M.out.take 0⟩
theorem fld_seed_neg {F : Fld} (hF : F.ok) (k : Nat) : IntKind.i64.wrap (-F.seed k) = -F.seed k := by
  have := hF.sb k
  exact IntWalk.i64_in _ (by omega)
set_option maxRecDepth 100000 in
set_option maxHeartbeats 2000000 in
theorem rank_any (g fb p off a b d : Nat) {t tf ta tb td : TypeId} (F : Fld) (hF : F.ok) (fs : List Int) (hfl : fs.length = 100) (hff : ∀ x ∈ fs, -32768 ≤ x ∧ x ≤ 32767) (x : Flock) (hp : x.plain = true) (k : Nat) (hk : k < 100) (w : World) (hb : Blk w g t F.cells) (hfb : Blk w fb tf (ints .i16 fs)) (hx : w.rangeAt p off x.vals)
    (h1 : Blk w a ta #[.pointer (some ⟨g, 0, none⟩)]) (h2 : Blk w b tb #[.pointer (some ⟨p, off, none⟩)]) (h3 : Blk w d td #[.pointer (some ⟨fb, 0, none⟩)]) :
    Calls Tryz.prog 147 #[.int .i64 k, .pointer (some ⟨a, 0, none⟩), .pointer (some ⟨b, 0, none⟩), .pointer (some ⟨d, 0, none⟩)] w fun e w' => ∃ q, e = .returned (.slice (some ⟨q, 0, none⟩) (rk F fs x k).length (rk F fs x k).length) ∧ Mem w w' [.blk q 2 (ints .i64 (rk F fs x k))] := by
  have M := Lib.hid (Mem.start w)
  have y1 := h1.cellv (i := 0) rfl
  have y2 := h2.cellv (i := 0) rfl
  have y3 := h3.cellv (i := 0) rfl
  have y4 := hb.cellv (Fld.cellS hF.toLen (k := k) hk)
  have y5 := hfb.cellv (ints_at (k := .i16) (xs := fs) (i := k) (by omega))
  have y7 : w.cell? ⟨p, off, none⟩ = some (.int .i16 x.tree) := hx 0 _ rfl
  have y9 : w.cell? ⟨p, off + 5, none⟩ = some (.int .i8 x.taste) := hx 5 _ rfl
  have Y2 := Lib.hid y2
  have Y3 := Lib.hid y3
  have Y5 := Lib.hid y5
  have Y9 := Lib.hid y9
  obtain ⟨⟨t0, t1⟩, _, _, ⟨b0, b1⟩, ⟨r0, r1⟩, ⟨s0, s1⟩⟩ := Flock.plain_iff.1 hp
  have i0 : (0 : Int) ≤ (k : Int) := by omega
  have i1 : (k : Int) < 100 := by omega
  have e1 : IntKind.i64.wrap x.tree = x.tree := IntWalk.i64_in _ (by omega)
  have hsb := hF.sb k
  have e2 : IntKind.i64.wrap (F.seed k) = F.seed k := IntWalk.i64_in _ (by omega)
  have e3 := fld_seed_neg hF k
  have hfk : -32768 ≤ gi fs k ∧ gi fs k ≤ 32767 := getD_bound hff (by omega) k
  have e4 : IntKind.i64.wrap (gi fs k) = gi fs k := IntWalk.i64_in _ (by omega)
  clear hb hfb hx h1 h2 h3 hp hsb hfk
  rcases (show x.taste = 0 ∨ x.taste = 1 ∨ x.taste = 2 by omega) with ht | ht | ht
  · have HT := Lib.hid ht
    have HR := Lib.hid (show rk F fs x k = [-F.seed k, sq k x.tree] by rw [rk, if_pos ht])
    rw [ht] at y9 Y9
    clear ht s0 s1
    go_enter Tryz.func147, Tryz.ntmps147
    go_wp2_with fail
    go_quiet ((refine Calls.quiet_of_same (v := .int .i64 (sq k x.tree)) ?_; exact (square_any _ _ i0 (by omega) t0 t1 _).mono fun _ _ h => ⟨h.1, h.2.symm⟩))
    have M := Lib.hid (M.out.drewN nq)
    go_wp2_with (first
      | ((with_reducible refine gate_dst (N := 31) rfl ?_); go_must (refine M.out.ev_bsI elem_int64 rfl 2 _ rfl [-F.seed k, sq k x.tree] rfl (by decide) (by decide) (by go_simp) ?_); intro g31 w31 m; simp only [List.nil_append] at m; have M := Lib.hid m; clear m)
      )
    go_ret
    rw [HR.out]
    exact ⟨_, rfl, M.out⟩
  · have HT := Lib.hid ht
    have HR := Lib.hid (show rk F fs x k = [sq k x.tree, -F.seed k] by rw [rk, if_neg (by omega), if_pos ht])
    rw [ht] at y9 Y9
    clear ht s0 s1
    go_enter Tryz.func147, Tryz.ntmps147
    go_wp2_with fail
    go_quiet ((refine Calls.quiet_of_same (v := .int .i64 (sq k x.tree)) ?_; exact (square_any _ _ i0 (by omega) t0 t1 _).mono fun _ _ h => ⟨h.1, h.2.symm⟩))
    have M := Lib.hid (M.out.drewN nq)
    go_wp2_with (first
      | ((with_reducible refine gate_dst (N := 36) rfl ?_); go_must (refine M.out.ev_bsI elem_int64 rfl 2 _ rfl [sq k x.tree, -F.seed k] rfl (by decide) (by decide) (by go_simp) ?_); intro g31 w31 m; simp only [List.nil_append] at m; have M := Lib.hid m; clear m)
      )
    go_ret
    rw [HR.out]
    exact ⟨_, rfl, M.out⟩
  · have HT := Lib.hid ht
    have HR := Lib.hid (show rk F fs x k = [gi fs k, -F.seed k, sq k x.tree] by rw [rk, if_neg (by omega), if_neg (by omega)])
    rw [ht] at y9 Y9
    clear ht s0 s1
    go_enter Tryz.func147, Tryz.ntmps147
    go_wp2_with fail
    go_quiet ((refine Calls.quiet_of_same (v := .int .i64 (sq k x.tree)) ?_; exact (square_any _ _ i0 (by omega) t0 t1 _).mono fun _ _ h => ⟨h.1, h.2.symm⟩))
    have M := Lib.hid (M.out.drewN nq)
    go_wp2_with (first
      | ((with_reducible refine gate_dst (N := 45) rfl ?_); go_must (refine M.out.ev_bsI elem_int64 rfl 3 _ rfl [gi fs k, -F.seed k, sq k x.tree] rfl (by decide) (by decide) (by go_simp) ?_); intro g31 w31 m; simp only [List.nil_append] at m; have M := Lib.hid m; clear m)
      )
    go_ret
    rw [HR.out]
    exact ⟨_, rfl, M.out⟩
theorem rk_len (F : Fld) (fs : List Int) (x : Flock) (k : Nat) : (rk F fs x k).length ≤ 3 := by
  unfold rk
  split
  · simp
  · split <;> simp
set_option maxRecDepth 100000 in
set_option maxHeartbeats 2000000 in
theorem before_any (g fb p off a b d r : Nat) {t tf ta tb td tr : TypeId} (F : Fld) (hF : F.ok) (fs : List Int) (hfl : fs.length = 100) (hff : ∀ x ∈ fs, -32768 ≤ x ∧ x ≤ 32767) (x : Flock) (hp : x.plain = true) (i j : Nat) (hi : i < 100) (hj : j < 100) (w : World) (hb : Blk w g t F.cells) (hfb : Blk w fb tf (ints .i16 fs)) (hx : w.rangeAt p off x.vals)
    (h1 : Blk w a ta #[.pointer (some ⟨g, 0, none⟩)]) (h2 : Blk w b tb #[.pointer (some ⟨p, off, none⟩)]) (h3 : Blk w d td #[.pointer (some ⟨fb, 0, none⟩)]) (hr : Blk w r tr #[.func (.func 147) #[] #[.pointer (some ⟨a, 0, none⟩), .pointer (some ⟨b, 0, none⟩), .pointer (some ⟨d, 0, none⟩)]]) :
    Calls Tryz.prog 149 #[.int .i64 i, .int .i64 j, .pointer (some ⟨r, 0, none⟩)] w fun e w' => e = .returned (.bool (better F fs x i j)) ∧ Mem w w' [] := by
  have M := Lib.hid (Mem.start w)
  have R := Lib.hid hr
  have HB := Lib.hid hb
  have HFB := Lib.hid hfb
  have HX := Lib.hid hx
  have HFF := Lib.hid hff
  have H1 := Lib.hid h1
  have H2 := Lib.hid h2
  have H3 := Lib.hid h3
  have l1 := Lib.hid (rk_len F fs x i)
  have l2 := Lib.hid (rk_len F fs x j)
  have BT := Lib.hid (lexcmp_lt (rk F fs x i) (rk F fs x j))
  clear hr hb hfb hx hff h1 h2 h3
  go_enter Tryz.func149, Tryz.ntmps149
  go_wp2_with fail
  refine region_anyH (fun w' => Mem w w' []) (by kernel_rfl) ?_
  have m := M.out.drew
  clear M
  have M := Lib.hid m
  clear m
  apply takeH (i := 0) 6 rfl (by kernel_rfl) (by kernel_rfl) (by kernel_rfl) (fun _ _ _ h => h) rfl (by first | exact M.out | exact M.out.take 0)
  case' hy => exact ylds _ _ rfl rfl Tryz.underlying192 rfl rfl (fun w' hS => (hS.arg R.out).cellv (i := 0) rfl)
  try simp only [Act.put, List.getElem_toArray, List.getElem_cons_succ, List.getElem_cons_zero, List.setIfInBounds_toArray, List.set_cons_succ, List.set_cons_zero]
  apply takeH (i := 1) 7 rfl (by kernel_rfl) (by kernel_rfl) (by kernel_rfl) (fun _ _ _ h => h) rfl (by first | exact M.out | exact M.out.take 0)
  case' hy =>
    refine Or.inl ⟨by first | rfl | (go_simp; done), ?_⟩
    intro w hS
    clear hS
    go_simp
    try with_reducible rfl
  try simp only [Act.put, List.getElem_toArray, List.getElem_cons_succ, List.getElem_cons_zero, List.setIfInBounds_toArray, List.set_cons_succ, List.set_cons_zero]
  apply takeH (i := 3) 9 rfl (by kernel_rfl) (by kernel_rfl) (by kernel_rfl) (fun _ _ _ h => h) rfl (by first | exact M.out | exact M.out.take 0)
  case' hy => exact ylds _ _ rfl rfl Tryz.underlying192 rfl rfl (fun w' hS => (hS.arg R.out).cellv (i := 0) rfl)
  try simp only [Act.put, List.getElem_toArray, List.getElem_cons_succ, List.getElem_cons_zero, List.setIfInBounds_toArray, List.set_cons_succ, List.set_cons_zero]
  apply takeH (i := 4) 10 rfl (by kernel_rfl) (by kernel_rfl) (by kernel_rfl) (fun _ _ _ h => h) rfl (by first | exact M.out | exact M.out.take 0)
  case' hy =>
    refine Or.inl ⟨by first | rfl | (go_simp; done), ?_⟩
    intro w hS
    clear hS
    go_simp
    try with_reducible rfl
  try simp only [Act.put, List.getElem_toArray, List.getElem_cons_succ, List.getElem_cons_zero, List.setIfInBounds_toArray, List.set_cons_succ, List.set_cons_zero]
  refine any1H 2 (by kernel_rfl) rfl (fun K hK => ?_)
  go_wp2_with (first | (go_at_call 147; go_must (first | (refine Calls.mono (calls_args (by with_reducible rfl) (rank_any g fb p off a b d F hF fs hfl HFF.out x hp i hi _ (M.out.arg HB.out) (M.out.arg HFB.out) (M.out.argrg HX.out) (M.out.arg H1.out) (M.out.arg H2.out) (M.out.arg H3.out))) ?_) | (refine Calls.mono (calls_args (by with_reducible rfl) (rank_any g fb p off a b d F hF fs hfl HFF.out x hp j hj _ (M.out.arg HB.out) (M.out.arg HFB.out) (M.out.argrg HX.out) (M.out.arg H1.out) (M.out.arg H2.out) (M.out.arg H3.out))) ?_)); rintro e w_ ⟨q_, rfl, N_⟩; have m := M.out.join N_; clear N_; simp only [List.cons_append, List.nil_append, List.append_nil] at m; have M := Lib.hid m; clear m) | (go_at_call 150; go_must (refine (compare_any _ _ _ _ (rk F fs x i) (rk F fs x j) (by have := l1.out; omega) (by have := l2.out; omega) _ (sl_ints (M.out.blk 0 rfl)) (sl_ints (M.out.blk 1 rfl))).mono ?_); rintro e w_ ⟨rfl, rfl⟩))
  refine onward_normal (hK _ _ ⟨(by first | exact M.out | exact M.out.take 0), ?_⟩)
  clear hK K
  try simp only [Act.put, List.getElem_toArray, List.getElem_cons_succ, List.getElem_cons_zero, List.setIfInBounds_toArray, List.set_cons_succ, List.set_cons_zero]
  refine any1H 5 (by kernel_rfl) rfl (fun K hK => ?_)
  go_wp2_with (first | (go_at_call 147; go_must (first | (refine Calls.mono (calls_args (by with_reducible rfl) (rank_any g fb p off a b d F hF fs hfl HFF.out x hp i hi _ (M.out.arg HB.out) (M.out.arg HFB.out) (M.out.argrg HX.out) (M.out.arg H1.out) (M.out.arg H2.out) (M.out.arg H3.out))) ?_) | (refine Calls.mono (calls_args (by with_reducible rfl) (rank_any g fb p off a b d F hF fs hfl HFF.out x hp j hj _ (M.out.arg HB.out) (M.out.arg HFB.out) (M.out.argrg HX.out) (M.out.arg H1.out) (M.out.arg H2.out) (M.out.arg H3.out))) ?_)); rintro e w_ ⟨q_, rfl, N_⟩; have m := M.out.join N_; clear N_; simp only [List.cons_append, List.nil_append, List.append_nil] at m; have M := Lib.hid m; clear m) | (go_at_call 150; go_must (refine (compare_any _ _ _ _ (rk F fs x i) (rk F fs x j) (by have := l1.out; omega) (by have := l2.out; omega) _ (sl_ints (M.out.blk 0 rfl)) (sl_ints (M.out.blk 1 rfl))).mono ?_); rintro e w_ ⟨rfl, rfl⟩))
  refine onward_normal (hK _ _ ⟨(by first | exact M.out | exact M.out.take 0), ?_⟩)
  clear hK K
  try simp only [Act.put, List.getElem_toArray, List.getElem_cons_succ, List.getElem_cons_zero, List.setIfInBounds_toArray, List.set_cons_succ, List.set_cons_zero]
  refine any1H 6 (by kernel_rfl) rfl (fun K hK => ?_)
  go_wp2_with (first | (go_at_call 147; go_must (first | (refine Calls.mono (calls_args (by with_reducible rfl) (rank_any g fb p off a b d F hF fs hfl HFF.out x hp i hi _ (M.out.arg HB.out) (M.out.arg HFB.out) (M.out.argrg HX.out) (M.out.arg H1.out) (M.out.arg H2.out) (M.out.arg H3.out))) ?_) | (refine Calls.mono (calls_args (by with_reducible rfl) (rank_any g fb p off a b d F hF fs hfl HFF.out x hp j hj _ (M.out.arg HB.out) (M.out.arg HFB.out) (M.out.argrg HX.out) (M.out.arg H1.out) (M.out.arg H2.out) (M.out.arg H3.out))) ?_)); rintro e w_ ⟨q_, rfl, N_⟩; have m := M.out.join N_; clear N_; simp only [List.cons_append, List.nil_append, List.append_nil] at m; have M := Lib.hid m; clear m) | (go_at_call 150; go_must (refine (compare_any _ _ _ _ (rk F fs x i) (rk F fs x j) (by have := l1.out; omega) (by have := l2.out; omega) _ (sl_ints (M.out.blk 0 rfl)) (sl_ints (M.out.blk 1 rfl))).mono ?_); rintro e w_ ⟨rfl, rfl⟩))
  refine onward_normal (hK _ _ ⟨(by first | exact M.out | exact M.out.take 0), ?_⟩)
  clear hK K
  try simp only [Act.put, List.getElem_toArray, List.getElem_cons_succ, List.getElem_cons_zero, List.setIfInBounds_toArray, List.set_cons_succ, List.set_cons_zero]
  apply takeH (i := 7) 13 rfl (by kernel_rfl) (by kernel_rfl) (by kernel_rfl) (fun _ _ _ h => h) rfl (by first | exact M.out | exact M.out.take 0)
  case' hy =>
    refine Or.inl ⟨by first | rfl | (go_simp; done), ?_⟩
    intro w hS
    clear hS
    go_simp
    try with_reducible rfl
  try simp only [Act.put, List.getElem_toArray, List.getElem_cons_succ, List.getElem_cons_zero, List.setIfInBounds_toArray, List.set_cons_succ, List.set_cons_zero]
  apply takeH (i := 8) 5 rfl (by kernel_rfl) (by kernel_rfl) (by kernel_rfl) (fun _ _ _ h => h) rfl (by first | exact M.out | exact M.out.take 0)
  case' hy =>
    refine Or.inl ⟨by first | rfl | (go_simp; done), ?_⟩
    intro w hS
    clear hS
    go_simp
    try with_reducible rfl
  try simp only [Act.put, List.getElem_toArray, List.getElem_cons_succ, List.getElem_cons_zero, List.setIfInBounds_toArray, List.set_cons_succ, List.set_cons_zero]
  refine wpAnyH_done (by kernel_rfl) ?_ _
  all_goals
    go_wp2
    go_ret
    exact ⟨ret_bool (by rw [better, ← BT.out]), M.out.take 0⟩
set_option maxRecDepth 100000 in
set_option maxHeartbeats 2000000 in
theorem choice_any (g fb p off : Nat) {t tf : TypeId} (F : Fld) (hF : F.ok) (fs : List Int) (hfl : fs.length = 100) (hff : ∀ x ∈ fs, -32768 ≤ x ∧ x ≤ 32767) (x : Flock) (hp : x.plain = true) (w : World) (hb : Blk w g t F.cells) (hfb : Blk w fb tf (ints .i16 fs)) (hx : w.rangeAt p off x.vals) :
    Calls Tryz.prog 80 #[.pointer (some ⟨g, 0, none⟩), .pointer (some ⟨fb, 0, none⟩), .pointer (some ⟨p, off, none⟩)] w fun e w' => e = .returned (.int .i64 (choiceOf F fs x)) ∧ Mem w w' [] := by
  have M := Lib.hid (Mem.start w)
  have HB := Lib.hid hb
  have HFB := Lib.hid hfb
  have HX := Lib.hid hx
  have HFF := Lib.hid hff
  have GO := Lib.hid (show (goSet F fs x).ok from setOf_ok _ fun k hk => by have := (Fld.all_has (List.mem_filter.1 hk).1).1; omega)
  have CA := Lib.hid (choice_all F fs x)
  clear hb hfb hx hff
  go_enter Tryz.func80, Tryz.ntmps80
  go_wp2_with (first
    | ((with_reducible refine gate_dst (N := 3) rfl ?_); go_must (refine M.out.ev_new rfl (by first | (go_simp; done) | (go_simp; rfl)) ?_); intro g3 w3 m; simp only [List.cons_append, List.nil_append] at m; have M := Lib.hid m; clear m; try have q0_0 := M.out.cell (j := 0) 0 rfl (by first | assumption | rfl); try have q1_0 := M.out.cell (j := 0) 1 rfl (by first | assumption | rfl); try have q2_0 := M.out.cell (j := 0) 2 rfl (by first | assumption | rfl))
    | ((with_reducible refine gate_dst (N := 4) rfl ?_); go_must (refine M.out.ev_new rfl (by first | (go_simp; done) | (go_simp; rfl)) ?_); intro g4 w4 m; simp only [List.cons_append, List.nil_append] at m; have M := Lib.hid m; clear m; try have q0_0 := M.out.cell (j := 0) 0 rfl (by first | assumption | rfl); try have q1_0 := M.out.cell (j := 0) 1 rfl (by first | assumption | rfl); try have q2_0 := M.out.cell (j := 0) 2 rfl (by first | assumption | rfl))
    | ((with_reducible refine gate_dst (N := 5) rfl ?_); go_must (refine M.out.ev_new rfl (by first | (go_simp; done) | (go_simp; rfl)) ?_); intro g5 w5 m; simp only [List.cons_append, List.nil_append] at m; have M := Lib.hid m; clear m; try have q0_0 := M.out.cell (j := 0) 0 rfl (by first | assumption | rfl); try have q1_0 := M.out.cell (j := 0) 1 rfl (by first | assumption | rfl); try have q2_0 := M.out.cell (j := 0) 2 rfl (by first | assumption | rfl))
    | ((with_reducible refine gate_dst (N := 7) rfl ?_); go_must (refine M.out.ev_new rfl (by first | (go_simp; done) | (go_simp; rfl)) ?_); intro g7 w7 m; simp only [List.cons_append, List.nil_append] at m; have M := Lib.hid m; clear m; try have q0_0 := M.out.cell (j := 0) 0 rfl (by first | assumption | rfl); try have q1_0 := M.out.cell (j := 0) 1 rfl (by first | assumption | rfl); try have q2_0 := M.out.cell (j := 0) 2 rfl (by first | assumption | rfl))
    | ((with_reducible refine gate_store (x := .tmp 7) rfl ?_); go_must (refine M.out.ev_put 3 _ _ _ rfl rfl rfl rfl _ rfl (by first | assumption | exact Fld.lt0 _ | exact Fld.lt1 _ | (simp; done) | (simp only [ints_size]; omega)) sz192 rfl rfl ?_); intro wn m; simp only [List.set_cons_succ, List.set_cons_zero, List.setIfInBounds_toArray] at m; have M := Lib.hid m; clear m; try have q0_0 := M.out.cell (j := 0) 0 rfl (by first | assumption | rfl); try have q1_0 := M.out.cell (j := 0) 1 rfl (by first | assumption | rfl); try have q2_0 := M.out.cell (j := 0) 2 rfl (by first | assumption | rfl))
    | ((with_reducible refine gate_dst (N := 9) rfl ?_); go_must (refine M.out.ev_ld 0 _ _ rfl rfl rfl Tryz.underlying89 rfl rfl (by first | assumption | rfl) ?_))
    | ((with_reducible refine gate_dst (N := 10) rfl ?_); go_must (refine M.out.ev_ld 0 _ _ rfl rfl rfl Tryz.underlying89 rfl rfl (by first | assumption | rfl) ?_))
    | ((with_reducible refine gate_dst (N := 11) rfl ?_); go_must (refine M.out.ev_ld 1 _ _ rfl rfl rfl Tryz.underlying104 rfl rfl (by first | assumption | rfl) ?_))
    | ((with_reducible refine gate_dst (N := 12) rfl ?_); go_must (refine M.out.ev_ld 2 _ _ rfl rfl rfl Tryz.underlying96 rfl rfl (by first | assumption | rfl) ?_))
    )
  refine region_anyH (fun w' => Mem w w' [.blk g3 89 #[.pointer (some ⟨g, 0, none⟩)], .blk g4 104 #[.pointer (some ⟨fb, 0, none⟩)], .blk g5 96 #[.pointer (some ⟨p, off, none⟩)], .blk g7 192 #[.func (.func 147) #[] #[.pointer (some ⟨g3, 0, none⟩), .pointer (some ⟨g5, 0, none⟩), .pointer (some ⟨g4, 0, none⟩)]]]) (by kernel_rfl) ?_
  have m := M.out.drew
  clear M
  have M := Lib.hid m
  clear m
  apply takeH (i := 0) 9 rfl (by kernel_rfl) (by kernel_rfl) (by kernel_rfl) (fun _ _ _ h => h) rfl (by first | exact M.out | exact M.out.take 4)
  case' hy => exact ylds _ _ rfl rfl Tryz.underlying89 rfl rfl (fun w' hS => hS.cell 0 rfl (by first | assumption | rfl))
  try simp only [Act.put, List.getElem_toArray, List.getElem_cons_succ, List.getElem_cons_zero, List.setIfInBounds_toArray, List.set_cons_succ, List.set_cons_zero]
  apply takeH (i := 1) 10 rfl (by kernel_rfl) (by kernel_rfl) (by kernel_rfl) (fun _ _ _ h => h) rfl (by first | exact M.out | exact M.out.take 4)
  case' hy => exact ylds _ _ rfl rfl Tryz.underlying89 rfl rfl (fun w' hS => hS.cell 0 rfl (by first | assumption | rfl))
  try simp only [Act.put, List.getElem_toArray, List.getElem_cons_succ, List.getElem_cons_zero, List.setIfInBounds_toArray, List.set_cons_succ, List.set_cons_zero]
  apply takeH (i := 2) 11 rfl (by kernel_rfl) (by kernel_rfl) (by kernel_rfl) (fun _ _ _ h => h) rfl (by first | exact M.out | exact M.out.take 4)
  case' hy => exact ylds _ _ rfl rfl Tryz.underlying104 rfl rfl (fun w' hS => hS.cell 1 rfl (by first | assumption | rfl))
  try simp only [Act.put, List.getElem_toArray, List.getElem_cons_succ, List.getElem_cons_zero, List.setIfInBounds_toArray, List.set_cons_succ, List.set_cons_zero]
  apply takeH (i := 3) 12 rfl (by kernel_rfl) (by kernel_rfl) (by kernel_rfl) (fun _ _ _ h => h) rfl (by first | exact M.out | exact M.out.take 4)
  case' hy => exact ylds _ _ rfl rfl Tryz.underlying96 rfl rfl (fun w' hS => hS.cell 2 rfl (by first | assumption | rfl))
  try simp only [Act.put, List.getElem_toArray, List.getElem_cons_succ, List.getElem_cons_zero, List.setIfInBounds_toArray, List.set_cons_succ, List.set_cons_zero]
  refine any2H 4 5 (by kernel_rfl) rfl rfl (fun K hK => ?_) (fun K hK => ?_)
  rotate_right 1
  case' _ =>
    go_wp2_with (first | ((with_reducible refine gate_dst (N := 9) rfl ?_); go_must (refine M.out.ev_ld 0 _ _ rfl rfl rfl Tryz.underlying89 rfl rfl (by first | assumption | rfl) ?_)) | ((with_reducible refine gate_dst (N := 10) rfl ?_); go_must (refine M.out.ev_ld 0 _ _ rfl rfl rfl Tryz.underlying89 rfl rfl (by first | assumption | rfl) ?_)) | ((with_reducible refine gate_dst (N := 11) rfl ?_); go_must (refine M.out.ev_ld 1 _ _ rfl rfl rfl Tryz.underlying104 rfl rfl (by first | assumption | rfl) ?_)) | ((with_reducible refine gate_dst (N := 12) rfl ?_); go_must (refine M.out.ev_ld 2 _ _ rfl rfl rfl Tryz.underlying96 rfl rfl (by first | assumption | rfl) ?_)) | (go_at_call 69; go_must (refine (cellsFor_any g fb p off F hF fs hfl x hp _ (M.out.arg HB.out) (M.out.arg HFB.out) (M.out.argrg HX.out)).mono ?_); rintro e w_ ⟨rfl, N_⟩; have m := M.out.join N_; clear N_; simp only [List.cons_append, List.nil_append, List.append_nil] at m; have M := Lib.hid m; clear m) | (go_at_call 148; go_must (refine (first_any g F hF (goSet F fs x) GO.out 149 #[.pointer (some ⟨g7, 0, none⟩)] (better F fs x) _ (M.out.arg HB.out) (fun _ _ => by go_simp) (fun i j hi hj _ _ w1 m1 => calls_caps2 (before_any g fb p off g3 g5 g4 g7 F hF fs hfl HFF.out x hp i j hi hj w1 ((M.out.join m1).arg HB.out) ((M.out.join m1).arg HFB.out) ((M.out.join m1).argrg HX.out) ((M.out.join m1).blk 0 rfl) ((M.out.join m1).blk 2 rfl) ((M.out.join m1).blk 1 rfl) ((M.out.join m1).blk 3 rfl)))).mono ?_); rw [CA.out]; rintro e w_ ⟨rfl, N_⟩; have m := M.out.join N_; clear N_; simp only [List.cons_append, List.nil_append, List.append_nil] at m; have M := Lib.hid m; clear m))
    refine onward_normal (hK _ _ ⟨(by first | exact M.out | exact M.out.take 4), ?_⟩)
    clear hK K
    try simp only [Act.put, List.getElem_toArray, List.getElem_cons_succ, List.getElem_cons_zero, List.setIfInBounds_toArray, List.set_cons_succ, List.set_cons_zero]
    refine any1H 4 (by kernel_rfl) rfl (fun K hK => ?_)
    go_wp2_with (first | ((with_reducible refine gate_dst (N := 9) rfl ?_); go_must (refine M.out.ev_ld 0 _ _ rfl rfl rfl Tryz.underlying89 rfl rfl (by first | assumption | rfl) ?_)) | ((with_reducible refine gate_dst (N := 10) rfl ?_); go_must (refine M.out.ev_ld 0 _ _ rfl rfl rfl Tryz.underlying89 rfl rfl (by first | assumption | rfl) ?_)) | ((with_reducible refine gate_dst (N := 11) rfl ?_); go_must (refine M.out.ev_ld 1 _ _ rfl rfl rfl Tryz.underlying104 rfl rfl (by first | assumption | rfl) ?_)) | ((with_reducible refine gate_dst (N := 12) rfl ?_); go_must (refine M.out.ev_ld 2 _ _ rfl rfl rfl Tryz.underlying96 rfl rfl (by first | assumption | rfl) ?_)) | (go_at_call 69; go_must (refine (cellsFor_any g fb p off F hF fs hfl x hp _ (M.out.arg HB.out) (M.out.arg HFB.out) (M.out.argrg HX.out)).mono ?_); rintro e w_ ⟨rfl, N_⟩; have m := M.out.join N_; clear N_; simp only [List.cons_append, List.nil_append, List.append_nil] at m; have M := Lib.hid m; clear m) | (go_at_call 148; go_must (refine (first_any g F hF (goSet F fs x) GO.out 149 #[.pointer (some ⟨g7, 0, none⟩)] (better F fs x) _ (M.out.arg HB.out) (fun _ _ => by go_simp) (fun i j hi hj _ _ w1 m1 => calls_caps2 (before_any g fb p off g3 g5 g4 g7 F hF fs hfl HFF.out x hp i j hi hj w1 ((M.out.join m1).arg HB.out) ((M.out.join m1).arg HFB.out) ((M.out.join m1).argrg HX.out) ((M.out.join m1).blk 0 rfl) ((M.out.join m1).blk 2 rfl) ((M.out.join m1).blk 1 rfl) ((M.out.join m1).blk 3 rfl)))).mono ?_); rw [CA.out]; rintro e w_ ⟨rfl, N_⟩; have m := M.out.join N_; clear N_; simp only [List.cons_append, List.nil_append, List.append_nil] at m; have M := Lib.hid m; clear m))
    refine onward_normal (hK _ _ ⟨(by first | exact M.out | exact M.out.take 4), ?_⟩)
    clear hK K
    try simp only [Act.put, List.getElem_toArray, List.getElem_cons_succ, List.getElem_cons_zero, List.setIfInBounds_toArray, List.set_cons_succ, List.set_cons_zero]
    refine any1H 6 (by kernel_rfl) rfl (fun K hK => ?_)
    go_wp2_with (first | ((with_reducible refine gate_dst (N := 9) rfl ?_); go_must (refine M.out.ev_ld 0 _ _ rfl rfl rfl Tryz.underlying89 rfl rfl (by first | assumption | rfl) ?_)) | ((with_reducible refine gate_dst (N := 10) rfl ?_); go_must (refine M.out.ev_ld 0 _ _ rfl rfl rfl Tryz.underlying89 rfl rfl (by first | assumption | rfl) ?_)) | ((with_reducible refine gate_dst (N := 11) rfl ?_); go_must (refine M.out.ev_ld 1 _ _ rfl rfl rfl Tryz.underlying104 rfl rfl (by first | assumption | rfl) ?_)) | ((with_reducible refine gate_dst (N := 12) rfl ?_); go_must (refine M.out.ev_ld 2 _ _ rfl rfl rfl Tryz.underlying96 rfl rfl (by first | assumption | rfl) ?_)) | (go_at_call 69; go_must (refine (cellsFor_any g fb p off F hF fs hfl x hp _ (M.out.arg HB.out) (M.out.arg HFB.out) (M.out.argrg HX.out)).mono ?_); rintro e w_ ⟨rfl, N_⟩; have m := M.out.join N_; clear N_; simp only [List.cons_append, List.nil_append, List.append_nil] at m; have M := Lib.hid m; clear m) | (go_at_call 148; go_must (refine (first_any g F hF (goSet F fs x) GO.out 149 #[.pointer (some ⟨g7, 0, none⟩)] (better F fs x) _ (M.out.arg HB.out) (fun _ _ => by go_simp) (fun i j hi hj _ _ w1 m1 => calls_caps2 (before_any g fb p off g3 g5 g4 g7 F hF fs hfl HFF.out x hp i j hi hj w1 ((M.out.join m1).arg HB.out) ((M.out.join m1).arg HFB.out) ((M.out.join m1).argrg HX.out) ((M.out.join m1).blk 0 rfl) ((M.out.join m1).blk 2 rfl) ((M.out.join m1).blk 1 rfl) ((M.out.join m1).blk 3 rfl)))).mono ?_); rw [CA.out]; rintro e w_ ⟨rfl, N_⟩; have m := M.out.join N_; clear N_; simp only [List.cons_append, List.nil_append, List.append_nil] at m; have M := Lib.hid m; clear m))
    refine onward_normal (hK _ _ ⟨(by first | exact M.out | exact M.out.take 4), ?_⟩)
    clear hK K
    try simp only [Act.put, List.getElem_toArray, List.getElem_cons_succ, List.getElem_cons_zero, List.setIfInBounds_toArray, List.set_cons_succ, List.set_cons_zero]
    apply takeH (i := 7) 6 rfl (by kernel_rfl) (by kernel_rfl) (by kernel_rfl) (fun _ _ _ h => h) rfl (by first | exact M.out | exact M.out.take 4)
    case' hy =>
      refine Or.inl ⟨by first | rfl | (go_simp; done), ?_⟩
      intro w hS
      clear hS
      go_simp
      try with_reducible rfl
    try simp only [Act.put, List.getElem_toArray, List.getElem_cons_succ, List.getElem_cons_zero, List.setIfInBounds_toArray, List.set_cons_succ, List.set_cons_zero]
    refine wpAnyH_done (by kernel_rfl) ?_ _
  rotate_right 1
  case' _ =>
    go_wp2_with (first | ((with_reducible refine gate_dst (N := 9) rfl ?_); go_must (refine M.out.ev_ld 0 _ _ rfl rfl rfl Tryz.underlying89 rfl rfl (by first | assumption | rfl) ?_)) | ((with_reducible refine gate_dst (N := 10) rfl ?_); go_must (refine M.out.ev_ld 0 _ _ rfl rfl rfl Tryz.underlying89 rfl rfl (by first | assumption | rfl) ?_)) | ((with_reducible refine gate_dst (N := 11) rfl ?_); go_must (refine M.out.ev_ld 1 _ _ rfl rfl rfl Tryz.underlying104 rfl rfl (by first | assumption | rfl) ?_)) | ((with_reducible refine gate_dst (N := 12) rfl ?_); go_must (refine M.out.ev_ld 2 _ _ rfl rfl rfl Tryz.underlying96 rfl rfl (by first | assumption | rfl) ?_)) | (go_at_call 69; go_must (refine (cellsFor_any g fb p off F hF fs hfl x hp _ (M.out.arg HB.out) (M.out.arg HFB.out) (M.out.argrg HX.out)).mono ?_); rintro e w_ ⟨rfl, N_⟩; have m := M.out.join N_; clear N_; simp only [List.cons_append, List.nil_append, List.append_nil] at m; have M := Lib.hid m; clear m) | (go_at_call 148; go_must (refine (first_any g F hF (goSet F fs x) GO.out 149 #[.pointer (some ⟨g7, 0, none⟩)] (better F fs x) _ (M.out.arg HB.out) (fun _ _ => by go_simp) (fun i j hi hj _ _ w1 m1 => calls_caps2 (before_any g fb p off g3 g5 g4 g7 F hF fs hfl HFF.out x hp i j hi hj w1 ((M.out.join m1).arg HB.out) ((M.out.join m1).arg HFB.out) ((M.out.join m1).argrg HX.out) ((M.out.join m1).blk 0 rfl) ((M.out.join m1).blk 2 rfl) ((M.out.join m1).blk 1 rfl) ((M.out.join m1).blk 3 rfl)))).mono ?_); rw [CA.out]; rintro e w_ ⟨rfl, N_⟩; have m := M.out.join N_; clear N_; simp only [List.cons_append, List.nil_append, List.append_nil] at m; have M := Lib.hid m; clear m))
    refine onward_normal (hK _ _ ⟨(by first | exact M.out | exact M.out.take 4), ?_⟩)
    clear hK K
    try simp only [Act.put, List.getElem_toArray, List.getElem_cons_succ, List.getElem_cons_zero, List.setIfInBounds_toArray, List.set_cons_succ, List.set_cons_zero]
    refine any1H 5 (by kernel_rfl) rfl (fun K hK => ?_)
    go_wp2_with (first | ((with_reducible refine gate_dst (N := 9) rfl ?_); go_must (refine M.out.ev_ld 0 _ _ rfl rfl rfl Tryz.underlying89 rfl rfl (by first | assumption | rfl) ?_)) | ((with_reducible refine gate_dst (N := 10) rfl ?_); go_must (refine M.out.ev_ld 0 _ _ rfl rfl rfl Tryz.underlying89 rfl rfl (by first | assumption | rfl) ?_)) | ((with_reducible refine gate_dst (N := 11) rfl ?_); go_must (refine M.out.ev_ld 1 _ _ rfl rfl rfl Tryz.underlying104 rfl rfl (by first | assumption | rfl) ?_)) | ((with_reducible refine gate_dst (N := 12) rfl ?_); go_must (refine M.out.ev_ld 2 _ _ rfl rfl rfl Tryz.underlying96 rfl rfl (by first | assumption | rfl) ?_)) | (go_at_call 69; go_must (refine (cellsFor_any g fb p off F hF fs hfl x hp _ (M.out.arg HB.out) (M.out.arg HFB.out) (M.out.argrg HX.out)).mono ?_); rintro e w_ ⟨rfl, N_⟩; have m := M.out.join N_; clear N_; simp only [List.cons_append, List.nil_append, List.append_nil] at m; have M := Lib.hid m; clear m) | (go_at_call 148; go_must (refine (first_any g F hF (goSet F fs x) GO.out 149 #[.pointer (some ⟨g7, 0, none⟩)] (better F fs x) _ (M.out.arg HB.out) (fun _ _ => by go_simp) (fun i j hi hj _ _ w1 m1 => calls_caps2 (before_any g fb p off g3 g5 g4 g7 F hF fs hfl HFF.out x hp i j hi hj w1 ((M.out.join m1).arg HB.out) ((M.out.join m1).arg HFB.out) ((M.out.join m1).argrg HX.out) ((M.out.join m1).blk 0 rfl) ((M.out.join m1).blk 2 rfl) ((M.out.join m1).blk 1 rfl) ((M.out.join m1).blk 3 rfl)))).mono ?_); rw [CA.out]; rintro e w_ ⟨rfl, N_⟩; have m := M.out.join N_; clear N_; simp only [List.cons_append, List.nil_append, List.append_nil] at m; have M := Lib.hid m; clear m))
    refine onward_normal (hK _ _ ⟨(by first | exact M.out | exact M.out.take 4), ?_⟩)
    clear hK K
    try simp only [Act.put, List.getElem_toArray, List.getElem_cons_succ, List.getElem_cons_zero, List.setIfInBounds_toArray, List.set_cons_succ, List.set_cons_zero]
    refine any1H 6 (by kernel_rfl) rfl (fun K hK => ?_)
    go_wp2_with (first | ((with_reducible refine gate_dst (N := 9) rfl ?_); go_must (refine M.out.ev_ld 0 _ _ rfl rfl rfl Tryz.underlying89 rfl rfl (by first | assumption | rfl) ?_)) | ((with_reducible refine gate_dst (N := 10) rfl ?_); go_must (refine M.out.ev_ld 0 _ _ rfl rfl rfl Tryz.underlying89 rfl rfl (by first | assumption | rfl) ?_)) | ((with_reducible refine gate_dst (N := 11) rfl ?_); go_must (refine M.out.ev_ld 1 _ _ rfl rfl rfl Tryz.underlying104 rfl rfl (by first | assumption | rfl) ?_)) | ((with_reducible refine gate_dst (N := 12) rfl ?_); go_must (refine M.out.ev_ld 2 _ _ rfl rfl rfl Tryz.underlying96 rfl rfl (by first | assumption | rfl) ?_)) | (go_at_call 69; go_must (refine (cellsFor_any g fb p off F hF fs hfl x hp _ (M.out.arg HB.out) (M.out.arg HFB.out) (M.out.argrg HX.out)).mono ?_); rintro e w_ ⟨rfl, N_⟩; have m := M.out.join N_; clear N_; simp only [List.cons_append, List.nil_append, List.append_nil] at m; have M := Lib.hid m; clear m) | (go_at_call 148; go_must (refine (first_any g F hF (goSet F fs x) GO.out 149 #[.pointer (some ⟨g7, 0, none⟩)] (better F fs x) _ (M.out.arg HB.out) (fun _ _ => by go_simp) (fun i j hi hj _ _ w1 m1 => calls_caps2 (before_any g fb p off g3 g5 g4 g7 F hF fs hfl HFF.out x hp i j hi hj w1 ((M.out.join m1).arg HB.out) ((M.out.join m1).arg HFB.out) ((M.out.join m1).argrg HX.out) ((M.out.join m1).blk 0 rfl) ((M.out.join m1).blk 2 rfl) ((M.out.join m1).blk 1 rfl) ((M.out.join m1).blk 3 rfl)))).mono ?_); rw [CA.out]; rintro e w_ ⟨rfl, N_⟩; have m := M.out.join N_; clear N_; simp only [List.cons_append, List.nil_append, List.append_nil] at m; have M := Lib.hid m; clear m))
    refine onward_normal (hK _ _ ⟨(by first | exact M.out | exact M.out.take 4), ?_⟩)
    clear hK K
    try simp only [Act.put, List.getElem_toArray, List.getElem_cons_succ, List.getElem_cons_zero, List.setIfInBounds_toArray, List.set_cons_succ, List.set_cons_zero]
    apply takeH (i := 7) 6 rfl (by kernel_rfl) (by kernel_rfl) (by kernel_rfl) (fun _ _ _ h => h) rfl (by first | exact M.out | exact M.out.take 4)
    case' hy =>
      refine Or.inl ⟨by first | rfl | (go_simp; done), ?_⟩
      intro w hS
      clear hS
      go_simp
      try with_reducible rfl
    try simp only [Act.put, List.getElem_toArray, List.getElem_cons_succ, List.getElem_cons_zero, List.setIfInBounds_toArray, List.set_cons_succ, List.set_cons_zero]
    refine wpAnyH_done (by kernel_rfl) ?_ _
  all_goals
    go_wp2
    go_ret
    exact ⟨rfl, M.out.take 0⟩
end Go.Proofs.YtkomhngokcejbaaGreatDoor
