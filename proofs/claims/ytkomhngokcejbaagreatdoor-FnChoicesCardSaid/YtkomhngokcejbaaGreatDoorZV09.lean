/- Texts of a proof, laid together: Choice2. -/
import Derived.Test.YtkomhngokcejbaaGreatDoorZV08
namespace Go.Proofs.YtkomhngokcejbaaGreatDoor
set_option linter.unusedSimpArgs false
set_option linter.unusedVariables false
open Go.RowKit
attribute [local go_sem] cell?_mk frozen?_mk

theorem rk3_len (F : Fld) (fs : List Int) (x : Flock) (k : Nat) : (rk3 F fs x k).length = 3 := by
  unfold rk3
  split
  · rfl
  · split <;> rfl
set_option maxRecDepth 100000 in
set_option maxHeartbeats 2000000 in
theorem l02Ranks_any (g fb p off : Nat) {t tf : TypeId} (F : Fld) (hF : F.ok) (fs : List Int) (hfl : fs.length = 100) (hff : ∀ x ∈ fs, -32768 ≤ x ∧ x ≤ 32767) (x : Flock) (hp : x.plain = true) (k : Nat) (hk : k < 100) (w : World) (hb : Blk w g t F.cells) (hfb : Blk w fb tf (ints .i16 fs)) (hx : w.rangeAt p off x.vals) :
    Calls Tryz.prog 151 #[.pointer (some ⟨g, 0, none⟩), .pointer (some ⟨fb, 0, none⟩), .pointer (some ⟨p, off, none⟩), .int .i64 k] w fun e w' => e = .returned (.agg (ints .i64 (rk3 F fs x k))) ∧ Mem w w' [] := by
  have M := Lib.hid (Mem.start w)
  have Y4 := Lib.hid (hb.cellv (Fld.cellS hF.toLen (k := k) hk))
  have Y5 := Lib.hid (hfb.cellv (ints_at (k := .i16) (xs := fs) (i := k) (by omega)))
  have Y7 := Lib.hid (show w.cell? ⟨p, off, none⟩ = some (.int .i16 x.tree) from hx 0 _ rfl)
  have Y9 := Lib.hid (show w.cell? ⟨p, off + 5, none⟩ = some (.int .i8 x.taste) from hx 5 _ rfl)
  obtain ⟨⟨t0, t1⟩, _, _, ⟨b0, b1⟩, ⟨r0, r1⟩, ⟨s0, s1⟩⟩ := Flock.plain_iff.1 hp
  have i0 : (0 : Int) ≤ (k : Int) := by omega
  have i1 : (k : Int) < 100 := by omega
  have e1 : IntKind.i64.wrap x.tree = x.tree := IntWalk.i64_in _ (by omega)
  have hsb := hF.sb k
  have e2 : IntKind.i64.wrap (F.seed k) = F.seed k := IntWalk.i64_in _ (by omega)
  have e3 := fld_seed_neg hF k
  have hfk : -32768 ≤ gi fs k ∧ gi fs k ≤ 32767 := getD_bound hff (by omega) k
  have e4 : IntKind.i64.wrap (gi fs k) = gi fs k := IntWalk.i64_in _ (by omega)
  have O1 := Lib.hid (ints_one .i64 (rk3 F fs x k))
  clear hb hfb hx hp hsb hfk
  rcases (show x.taste = 0 ∨ x.taste = 1 ∨ x.taste = 2 by omega) with ht | ht | ht
  · have HR := Lib.hid (show rk3 F fs x k = [-F.seed k, sq k x.tree, 0] by rw [rk3, if_pos ht])
    rw [ht] at Y9
    clear ht s0 s1
    go_enter Tryz.func151, Tryz.ntmps151
    go_wp2_with (first
      | ((with_reducible refine gate_dst (N := 8) rfl ?_); go_must (refine M.out.ev_new rfl (by first | (go_simp; done) | (go_simp; rfl)) ?_); intro g8 w8 m; simp only [List.nil_append] at m; have M := Lib.hid m; clear m; have y4 := M.out.argcell Y4.out; have y5 := M.out.argcell Y5.out; have y7 := M.out.argcell Y7.out; have y9 := M.out.argcell Y9.out)
      | (go_at_call 89; go_must (refine (l01Square_any _ _ i0 (by omega) t0 t1 _).mono ?_); rintro e w_ ⟨rfl, rfl⟩)
      | ((with_reducible refine gate_store (x := .tmp 8) rfl ?_); go_must (refine M.out.ev_stw 0 _ _ _ rfl rfl rfl rfl (ints .i64 [-F.seed k, sq k x.tree, 0]) rfl rfl sz196 (by first | exact ints_one _ _ | (simp [ints, Value.oneCell'])) rfl ?_); intro wn m; simp only [List.set_cons_zero] at m; have M := Lib.hid m; clear m)
      )
    rw [HR.out]
    exact ret_cell rfl (M.out.blk 0 rfl) Tryz.underlying196 rfl sz196 rfl ⟨rfl, M.out.take 0⟩
  · have HR := Lib.hid (show rk3 F fs x k = [sq k x.tree, -F.seed k, 0] by rw [rk3, if_neg (by omega), if_pos ht])
    rw [ht] at Y9
    clear ht s0 s1
    go_enter Tryz.func151, Tryz.ntmps151
    go_wp2_with (first
      | ((with_reducible refine gate_dst (N := 8) rfl ?_); go_must (refine M.out.ev_new rfl (by first | (go_simp; done) | (go_simp; rfl)) ?_); intro g8 w8 m; simp only [List.nil_append] at m; have M := Lib.hid m; clear m; have y4 := M.out.argcell Y4.out; have y5 := M.out.argcell Y5.out; have y7 := M.out.argcell Y7.out; have y9 := M.out.argcell Y9.out)
      | (go_at_call 89; go_must (refine (l01Square_any _ _ i0 (by omega) t0 t1 _).mono ?_); rintro e w_ ⟨rfl, rfl⟩)
      | ((with_reducible refine gate_store (x := .tmp 8) rfl ?_); go_must (refine M.out.ev_stw 0 _ _ _ rfl rfl rfl rfl (ints .i64 [sq k x.tree, -F.seed k, 0]) rfl rfl sz196 (by first | exact ints_one _ _ | (simp [ints, Value.oneCell'])) rfl ?_); intro wn m; simp only [List.set_cons_zero] at m; have M := Lib.hid m; clear m)
      )
    rw [HR.out]
    exact ret_cell rfl (M.out.blk 0 rfl) Tryz.underlying196 rfl sz196 rfl ⟨rfl, M.out.take 0⟩
  · have HR := Lib.hid (show rk3 F fs x k = [gi fs k, -F.seed k, sq k x.tree] by rw [rk3, if_neg (by omega), if_neg (by omega)])
    rw [ht] at Y9
    clear ht s0 s1
    go_enter Tryz.func151, Tryz.ntmps151
    go_wp2_with (first
      | ((with_reducible refine gate_dst (N := 8) rfl ?_); go_must (refine M.out.ev_new rfl (by first | (go_simp; done) | (go_simp; rfl)) ?_); intro g8 w8 m; simp only [List.nil_append] at m; have M := Lib.hid m; clear m; have y4 := M.out.argcell Y4.out; have y5 := M.out.argcell Y5.out; have y7 := M.out.argcell Y7.out; have y9 := M.out.argcell Y9.out)
      | (go_at_call 89; go_must (refine (l01Square_any _ _ i0 (by omega) t0 t1 _).mono ?_); rintro e w_ ⟨rfl, rfl⟩)
      | ((with_reducible refine gate_store (x := .tmp 8) rfl ?_); go_must (refine M.out.ev_stw 0 _ _ _ rfl rfl rfl rfl (ints .i64 [gi fs k, -F.seed k, sq k x.tree]) rfl rfl sz196 (by first | exact ints_one _ _ | (simp [ints, Value.oneCell'])) rfl ?_); intro wn m; simp only [List.set_cons_zero] at m; have M := Lib.hid m; clear m)
      )
    rw [HR.out]
    exact ret_cell rfl (M.out.blk 0 rfl) Tryz.underlying196 rfl sz196 rfl ⟨rfl, M.out.take 0⟩
/-- The ranks of the best so far. -/
def rkOf (F : Fld) (fs : List Int) (x : Flock) (b : Int) : List Int := if b < 0 then [0, 0, 0] else rk3 F fs x b.toNat
theorem three {l : List Int} (h : l.length = 3) : ∃ a b c, l = [a, b, c] := by
  match l, h with
  | [a, b, c], _ => exact ⟨a, b, c, rfl⟩
theorem rkOf_len (F : Fld) (fs : List Int) (x : Flock) (b : Int) : (rkOf F fs x b).length = 3 := by
  unfold rkOf
  split
  · rfl
  · exact rk3_len _ _ _ _
def chP (F : Fld) (fs : List Int) (x : Flock) (k : Nat) : Bool := F.has k && goP F fs x k
set_option maxRecDepth 100000 in
set_option maxHeartbeats 4000000 in
theorem l02Choice_any (g fb p off : Nat) {t tf : TypeId} (F : Fld) (hF : F.ok) (fs : List Int) (hfl : fs.length = 100) (hff : ∀ x ∈ fs, -32768 ≤ x ∧ x ≤ 32767) (x : Flock) (hp : x.plain = true) (w : World) (hb : Blk w g t F.cells) (hfb : Blk w fb tf (ints .i16 fs)) (hx : w.rangeAt p off x.vals) :
    Calls Tryz.prog 81 #[.pointer (some ⟨g, 0, none⟩), .pointer (some ⟨fb, 0, none⟩), .pointer (some ⟨p, off, none⟩)] w fun e w' => e = .returned (.int .i64 (choiceOf F fs x)) ∧ Mem w w' [] := by
  have M := Lib.hid (Mem.start w)
  have HB := Lib.hid hb
  have HFB := Lib.hid hfb
  have HX := Lib.hid hx
  have HFF := Lib.hid hff
  clear hb hfb hx hff
  go_enter Tryz.func81, Tryz.ntmps81
  go_wp2_with (first
    | ((with_reducible refine gate_dst (N := 8) rfl ?_); go_must (refine M.out.ev_new rfl (by first | (go_simp; done) | (go_simp; rfl)) ?_); intro g8 w8 m; simp only [List.nil_append] at m; have M := Lib.hid m; clear m)
    | ((with_reducible refine gate_store (x := .tmp 8) rfl ?_); go_must (refine M.out.ev_stw 0 _ _ _ rfl rfl rfl rfl (ints .i64 [0, 0, 0]) rfl rfl sz196 (ints_one _ _) rfl ?_); intro wn m; simp only [List.set_cons_zero] at m; have M := Lib.hid m; clear m)
    )
  go_loopw [7, 9] (fun u v wr => ∃ k : Nat, k ≤ 100 ∧ v = .int .i64 k ∧ u = .int .i64 (pick (chP F fs x) (better F fs x) (List.range k)) ∧ Mem w wr [.blk g8 196 (ints .i64 (rkOf F fs x (pick (chP F fs x) (better F fs x) (List.range k))))])
    (fun _ v _ => 100 - (intOf v).toNat)
  case atStart => exact ⟨0, by omega, rfl, rfl, M.out⟩
  case round =>
    clear M
    obtain ⟨k, hk, rfl, rfl, m⟩ := hrel
    have M := Lib.hid m
    clear m
    by_cases hlt : k < 100
    · have hpk := pick_of (chP F fs x) (better F fs x) (List.range k)
      have HT := Lib.hid (show pick (chP F fs x) (better F fs x) (List.range (k + 1)) = pickStep (chP F fs x) (better F fs x) (pick (chP F fs x) (better F fs x) (List.range k)) k by rw [List.range_succ, pick_snoc])
      obtain ⟨B, hB⟩ : ∃ B, B = pick (chP F fs x) (better F fs x) (List.range k) := ⟨_, rfl⟩
      rw [← hB] at HT hpk M
      rw [← hB]
      clear hB
      have i0 : (0 : Int) ≤ (k : Int) := by omega
      have HW := Lib.hid (show (F.has k && goP F fs x k) = chP F fs x k from rfl)
      cases hq : chP F fs x k
      · have HQ := Lib.hid hq
        clear hq hpk
        go_wp2_with (first
          | (go_at_call 72; go_must (refine (l02Would_any g fb p off F hF fs hfl x hp k hlt _ (M.out.arg HB.out) (M.out.arg HFB.out) (M.out.argrg HX.out)).mono ?_); rintro e w_ ⟨rfl, N_⟩; have m := M.out.join N_; clear N_; simp only [List.cons_append, List.nil_append, List.append_nil] at m; have M := Lib.hid m; clear m; rw [HW.out, HQ.out])
          )
        have hst : pickStep (chP F fs x) (better F fs x) B k = B := by simp [pickStep, HQ.out]
        refine ⟨⟨k + 1, by omega, by go_num, by rw [HT.out, hst], ?_⟩, by simp [intOf]; omega⟩
        rw [HT.out, hst]
        exact M.out
      · have HQ := Lib.hid hq
        clear hq
        obtain ⟨a0, a1, a2, ha⟩ := three (rk3_len F fs x k)
        obtain ⟨b0, b1, b2, hb⟩ := three (rkOf_len F fs x B)
        have HA := Lib.hid ha
        have HBB := Lib.hid hb
        rw [hb] at M
        have LX := Lib.hid (show lexlt (rk3 F fs x k) (rkOf F fs x B) = (decide (a0 < b0) || (decide (a0 = b0) && (decide (a1 < b1) || (decide (a1 = b1) && (decide (a2 < b2) || (decide (a2 = b2) && false)))))) by rw [ha, hb]; simp [lexlt])
        have HK := Lib.hid (show pickStep (chP F fs x) (better F fs x) B k = if (decide (B < 0) || lexlt (rk3 F fs x k) (rkOf F fs x B)) = true then (k : Int) else B by
          unfold pickStep rkOf
          rw [HQ.out, Bool.true_and]
          by_cases hn : B < 0
          · simp [hn]
          · rw [if_neg hn, better3])
        have HPK := Lib.hid hpk
        clear ha hb hpk
        have hsp : a0 < b0 ∨ (a0 = b0 ∧ a1 < b1) ∨ (a0 = b0 ∧ a1 = b1 ∧ a2 < b2) ∨ (a0 = b0 ∧ a1 = b1 ∧ ¬ (a2 < b2)) ∨ (a0 = b0 ∧ b1 < a1) ∨ b0 < a0 := by omega
        rcases hsp with h0 | ⟨h0, h1⟩ | ⟨h0, h1, h2⟩ | ⟨h0, h1, h2⟩ | ⟨h0, h1⟩ | h0
        · have LV := Lib.hid (show lexlt (rk3 F fs x k) (rkOf F fs x B) = true by rw [LX.out]; simp; omega)
          rcases HPK.out with hn | ⟨z, _, _, hn⟩
          all_goals
            subst hn
            clear HPK
            try (have z0 : ¬ ((z : Int) < 0) := by omega)
            go_wp2_with (first
              | (go_at_call 72; go_must (refine (l02Would_any g fb p off F hF fs hfl x hp k hlt _ (M.out.arg HB.out) (M.out.arg HFB.out) (M.out.argrg HX.out)).mono ?_); rintro e w_ ⟨rfl, N_⟩; have m := M.out.join N_; clear N_; simp only [List.cons_append, List.nil_append, List.append_nil] at m; have M := Lib.hid m; clear m; rw [HW.out, HQ.out])
              | (go_at_call 151; go_must (refine (l02Ranks_any g fb p off F hF fs hfl HFF.out x hp k hlt _ (M.out.arg HB.out) (M.out.arg HFB.out) (M.out.argrg HX.out)).mono ?_); rintro e w_ ⟨rfl, N_⟩; have m := M.out.join N_; clear N_; simp only [List.cons_append, List.nil_append, List.append_nil] at m; have M := Lib.hid m; clear m; rw [HA.out])
              | ((with_reducible refine gate_dst (N := 10) rfl ?_); go_must (refine M.out.ev_new rfl (by first | (go_simp; done) | (go_simp; rfl)) ?_); intro g10 w10 m; simp only [List.cons_append, List.nil_append] at m; have M := Lib.hid m; clear m)
              | ((with_reducible refine gate_store (x := .tmp 10) rfl ?_); go_must (refine M.out.ev_stw 1 _ _ _ rfl rfl rfl rfl (ints .i64 [a0, a1, a2]) rfl rfl sz196 (ints_one _ _) rfl ?_); intro wn m; simp only [List.set_cons_succ, List.set_cons_zero] at m; have M := Lib.hid m; clear m; have c0 := M.out.cell (j := 0) (v := .int .i64 a0) 1 rfl rfl; have c1 := M.out.cell (j := 1) (v := .int .i64 a1) 1 rfl rfl; have c2 := M.out.cell (j := 2) (v := .int .i64 a2) 1 rfl rfl; have d0 := M.out.cell (j := 0) (v := .int .i64 b0) 0 rfl rfl; have d1 := M.out.cell (j := 1) (v := .int .i64 b1) 0 rfl rfl; have d2 := M.out.cell (j := 2) (v := .int .i64 b2) 0 rfl rfl)
              | ((with_reducible refine gate_dst (N := 67) rfl ?_); go_must (refine M.out.ev_ldw 1 _ _ rfl rfl rfl Tryz.underlying196 rfl sz196 rfl ?_))
              | ((with_reducible refine gate_store (x := .tmp 8) rfl ?_); go_must (refine M.out.ev_stw 0 _ _ _ rfl rfl rfl rfl (ints .i64 [a0, a1, a2]) rfl rfl sz196 (ints_one _ _) rfl ?_); intro wn m; simp only [List.set_cons_succ, List.set_cons_zero] at m; have M := Lib.hid m; clear m)
              )
            have hst := HK.out
            rw [LV.out] at hst
            have m := M.out.take 1
            first
              | (simp only [Bool.or_true, if_true] at hst
                 refine ⟨⟨k + 1, by omega, by go_num, by rw [HT.out, hst], ?_⟩, by simp [intOf]; omega⟩
                 rw [HT.out, hst, rkOf, if_neg (by omega), Int.toNat_natCast, HA.out]
                 exact m)
              | (rw [Bool.or_false, if_pos (by decide)] at hst
                 refine ⟨⟨k + 1, by omega, by go_num, by rw [HT.out, hst], ?_⟩, by simp [intOf]; omega⟩
                 rw [HT.out, hst, rkOf, if_neg (by omega), Int.toNat_natCast, HA.out]
                 exact m)
              | (rw [Bool.or_false, if_neg (by simp)] at hst
                 refine ⟨⟨k + 1, by omega, by go_num, by rw [HT.out, hst], ?_⟩, by simp [intOf]; omega⟩
                 rw [HT.out, hst, HBB.out]
                 exact m)
        · have LV := Lib.hid (show lexlt (rk3 F fs x k) (rkOf F fs x B) = true by rw [LX.out]; simp; omega)
          have f0 : (a0 < b0) = False := by simp; omega
          have f1 : (a0 == b0) = true := by simp [h0]
          clear h0
          rcases HPK.out with hn | ⟨z, _, _, hn⟩
          all_goals
            subst hn
            clear HPK
            try (have z0 : ¬ ((z : Int) < 0) := by omega)
            go_wp2_with (first
              | (go_at_call 72; go_must (refine (l02Would_any g fb p off F hF fs hfl x hp k hlt _ (M.out.arg HB.out) (M.out.arg HFB.out) (M.out.argrg HX.out)).mono ?_); rintro e w_ ⟨rfl, N_⟩; have m := M.out.join N_; clear N_; simp only [List.cons_append, List.nil_append, List.append_nil] at m; have M := Lib.hid m; clear m; rw [HW.out, HQ.out])
              | (go_at_call 151; go_must (refine (l02Ranks_any g fb p off F hF fs hfl HFF.out x hp k hlt _ (M.out.arg HB.out) (M.out.arg HFB.out) (M.out.argrg HX.out)).mono ?_); rintro e w_ ⟨rfl, N_⟩; have m := M.out.join N_; clear N_; simp only [List.cons_append, List.nil_append, List.append_nil] at m; have M := Lib.hid m; clear m; rw [HA.out])
              | ((with_reducible refine gate_dst (N := 10) rfl ?_); go_must (refine M.out.ev_new rfl (by first | (go_simp; done) | (go_simp; rfl)) ?_); intro g10 w10 m; simp only [List.cons_append, List.nil_append] at m; have M := Lib.hid m; clear m)
              | ((with_reducible refine gate_store (x := .tmp 10) rfl ?_); go_must (refine M.out.ev_stw 1 _ _ _ rfl rfl rfl rfl (ints .i64 [a0, a1, a2]) rfl rfl sz196 (ints_one _ _) rfl ?_); intro wn m; simp only [List.set_cons_succ, List.set_cons_zero] at m; have M := Lib.hid m; clear m; have c0 := M.out.cell (j := 0) (v := .int .i64 a0) 1 rfl rfl; have c1 := M.out.cell (j := 1) (v := .int .i64 a1) 1 rfl rfl; have c2 := M.out.cell (j := 2) (v := .int .i64 a2) 1 rfl rfl; have d0 := M.out.cell (j := 0) (v := .int .i64 b0) 0 rfl rfl; have d1 := M.out.cell (j := 1) (v := .int .i64 b1) 0 rfl rfl; have d2 := M.out.cell (j := 2) (v := .int .i64 b2) 0 rfl rfl)
              | ((with_reducible refine gate_dst (N := 67) rfl ?_); go_must (refine M.out.ev_ldw 1 _ _ rfl rfl rfl Tryz.underlying196 rfl sz196 rfl ?_))
              | ((with_reducible refine gate_store (x := .tmp 8) rfl ?_); go_must (refine M.out.ev_stw 0 _ _ _ rfl rfl rfl rfl (ints .i64 [a0, a1, a2]) rfl rfl sz196 (ints_one _ _) rfl ?_); intro wn m; simp only [List.set_cons_succ, List.set_cons_zero] at m; have M := Lib.hid m; clear m)
              )
            have hst := HK.out
            rw [LV.out] at hst
            have m := M.out.take 1
            first
              | (simp only [Bool.or_true, if_true] at hst
                 refine ⟨⟨k + 1, by omega, by go_num, by rw [HT.out, hst], ?_⟩, by simp [intOf]; omega⟩
                 rw [HT.out, hst, rkOf, if_neg (by omega), Int.toNat_natCast, HA.out]
                 exact m)
              | (rw [Bool.or_false, if_pos (by decide)] at hst
                 refine ⟨⟨k + 1, by omega, by go_num, by rw [HT.out, hst], ?_⟩, by simp [intOf]; omega⟩
                 rw [HT.out, hst, rkOf, if_neg (by omega), Int.toNat_natCast, HA.out]
                 exact m)
              | (rw [Bool.or_false, if_neg (by simp)] at hst
                 refine ⟨⟨k + 1, by omega, by go_num, by rw [HT.out, hst], ?_⟩, by simp [intOf]; omega⟩
                 rw [HT.out, hst, HBB.out]
                 exact m)
        · have LV := Lib.hid (show lexlt (rk3 F fs x k) (rkOf F fs x B) = true by rw [LX.out]; simp; omega)
          have f0 : (a0 < b0) = False := by simp; omega
          have f1 : (a0 == b0) = true := by simp [h0]
          have f2 : (a1 < b1) = False := by simp; omega
          have f3 : (a1 == b1) = true := by simp [h1]
          clear h0 h1
          rcases HPK.out with hn | ⟨z, _, _, hn⟩
          all_goals
            subst hn
            clear HPK
            try (have z0 : ¬ ((z : Int) < 0) := by omega)
            go_wp2_with (first
              | (go_at_call 72; go_must (refine (l02Would_any g fb p off F hF fs hfl x hp k hlt _ (M.out.arg HB.out) (M.out.arg HFB.out) (M.out.argrg HX.out)).mono ?_); rintro e w_ ⟨rfl, N_⟩; have m := M.out.join N_; clear N_; simp only [List.cons_append, List.nil_append, List.append_nil] at m; have M := Lib.hid m; clear m; rw [HW.out, HQ.out])
              | (go_at_call 151; go_must (refine (l02Ranks_any g fb p off F hF fs hfl HFF.out x hp k hlt _ (M.out.arg HB.out) (M.out.arg HFB.out) (M.out.argrg HX.out)).mono ?_); rintro e w_ ⟨rfl, N_⟩; have m := M.out.join N_; clear N_; simp only [List.cons_append, List.nil_append, List.append_nil] at m; have M := Lib.hid m; clear m; rw [HA.out])
              | ((with_reducible refine gate_dst (N := 10) rfl ?_); go_must (refine M.out.ev_new rfl (by first | (go_simp; done) | (go_simp; rfl)) ?_); intro g10 w10 m; simp only [List.cons_append, List.nil_append] at m; have M := Lib.hid m; clear m)
              | ((with_reducible refine gate_store (x := .tmp 10) rfl ?_); go_must (refine M.out.ev_stw 1 _ _ _ rfl rfl rfl rfl (ints .i64 [a0, a1, a2]) rfl rfl sz196 (ints_one _ _) rfl ?_); intro wn m; simp only [List.set_cons_succ, List.set_cons_zero] at m; have M := Lib.hid m; clear m; have c0 := M.out.cell (j := 0) (v := .int .i64 a0) 1 rfl rfl; have c1 := M.out.cell (j := 1) (v := .int .i64 a1) 1 rfl rfl; have c2 := M.out.cell (j := 2) (v := .int .i64 a2) 1 rfl rfl; have d0 := M.out.cell (j := 0) (v := .int .i64 b0) 0 rfl rfl; have d1 := M.out.cell (j := 1) (v := .int .i64 b1) 0 rfl rfl; have d2 := M.out.cell (j := 2) (v := .int .i64 b2) 0 rfl rfl)
              | ((with_reducible refine gate_dst (N := 67) rfl ?_); go_must (refine M.out.ev_ldw 1 _ _ rfl rfl rfl Tryz.underlying196 rfl sz196 rfl ?_))
              | ((with_reducible refine gate_store (x := .tmp 8) rfl ?_); go_must (refine M.out.ev_stw 0 _ _ _ rfl rfl rfl rfl (ints .i64 [a0, a1, a2]) rfl rfl sz196 (ints_one _ _) rfl ?_); intro wn m; simp only [List.set_cons_succ, List.set_cons_zero] at m; have M := Lib.hid m; clear m)
              )
            have hst := HK.out
            rw [LV.out] at hst
            have m := M.out.take 1
            first
              | (simp only [Bool.or_true, if_true] at hst
                 refine ⟨⟨k + 1, by omega, by go_num, by rw [HT.out, hst], ?_⟩, by simp [intOf]; omega⟩
                 rw [HT.out, hst, rkOf, if_neg (by omega), Int.toNat_natCast, HA.out]
                 exact m)
              | (rw [Bool.or_false, if_pos (by decide)] at hst
                 refine ⟨⟨k + 1, by omega, by go_num, by rw [HT.out, hst], ?_⟩, by simp [intOf]; omega⟩
                 rw [HT.out, hst, rkOf, if_neg (by omega), Int.toNat_natCast, HA.out]
                 exact m)
              | (rw [Bool.or_false, if_neg (by simp)] at hst
                 refine ⟨⟨k + 1, by omega, by go_num, by rw [HT.out, hst], ?_⟩, by simp [intOf]; omega⟩
                 rw [HT.out, hst, HBB.out]
                 exact m)
        · have LV := Lib.hid (show lexlt (rk3 F fs x k) (rkOf F fs x B) = false by rw [LX.out]; simp; omega)
          have f0 : (a0 < b0) = False := by simp; omega
          have f1 : (a0 == b0) = true := by simp [h0]
          have f2 : (a1 < b1) = False := by simp; omega
          have f3 : (a1 == b1) = true := by simp [h1]
          clear h0 h1
          rcases HPK.out with hn | ⟨z, _, _, hn⟩
          all_goals
            subst hn
            clear HPK
            try (have z0 : ¬ ((z : Int) < 0) := by omega)
            go_wp2_with (first
              | (go_at_call 72; go_must (refine (l02Would_any g fb p off F hF fs hfl x hp k hlt _ (M.out.arg HB.out) (M.out.arg HFB.out) (M.out.argrg HX.out)).mono ?_); rintro e w_ ⟨rfl, N_⟩; have m := M.out.join N_; clear N_; simp only [List.cons_append, List.nil_append, List.append_nil] at m; have M := Lib.hid m; clear m; rw [HW.out, HQ.out])
              | (go_at_call 151; go_must (refine (l02Ranks_any g fb p off F hF fs hfl HFF.out x hp k hlt _ (M.out.arg HB.out) (M.out.arg HFB.out) (M.out.argrg HX.out)).mono ?_); rintro e w_ ⟨rfl, N_⟩; have m := M.out.join N_; clear N_; simp only [List.cons_append, List.nil_append, List.append_nil] at m; have M := Lib.hid m; clear m; rw [HA.out])
              | ((with_reducible refine gate_dst (N := 10) rfl ?_); go_must (refine M.out.ev_new rfl (by first | (go_simp; done) | (go_simp; rfl)) ?_); intro g10 w10 m; simp only [List.cons_append, List.nil_append] at m; have M := Lib.hid m; clear m)
              | ((with_reducible refine gate_store (x := .tmp 10) rfl ?_); go_must (refine M.out.ev_stw 1 _ _ _ rfl rfl rfl rfl (ints .i64 [a0, a1, a2]) rfl rfl sz196 (ints_one _ _) rfl ?_); intro wn m; simp only [List.set_cons_succ, List.set_cons_zero] at m; have M := Lib.hid m; clear m; have c0 := M.out.cell (j := 0) (v := .int .i64 a0) 1 rfl rfl; have c1 := M.out.cell (j := 1) (v := .int .i64 a1) 1 rfl rfl; have c2 := M.out.cell (j := 2) (v := .int .i64 a2) 1 rfl rfl; have d0 := M.out.cell (j := 0) (v := .int .i64 b0) 0 rfl rfl; have d1 := M.out.cell (j := 1) (v := .int .i64 b1) 0 rfl rfl; have d2 := M.out.cell (j := 2) (v := .int .i64 b2) 0 rfl rfl)
              | ((with_reducible refine gate_dst (N := 67) rfl ?_); go_must (refine M.out.ev_ldw 1 _ _ rfl rfl rfl Tryz.underlying196 rfl sz196 rfl ?_))
              | ((with_reducible refine gate_store (x := .tmp 8) rfl ?_); go_must (refine M.out.ev_stw 0 _ _ _ rfl rfl rfl rfl (ints .i64 [a0, a1, a2]) rfl rfl sz196 (ints_one _ _) rfl ?_); intro wn m; simp only [List.set_cons_succ, List.set_cons_zero] at m; have M := Lib.hid m; clear m)
              )
            have hst := HK.out
            rw [LV.out] at hst
            have m := M.out.take 1
            first
              | (simp only [Bool.or_true, if_true] at hst
                 refine ⟨⟨k + 1, by omega, by go_num, by rw [HT.out, hst], ?_⟩, by simp [intOf]; omega⟩
                 rw [HT.out, hst, rkOf, if_neg (by omega), Int.toNat_natCast, HA.out]
                 exact m)
              | (rw [Bool.or_false, if_pos (by decide)] at hst
                 refine ⟨⟨k + 1, by omega, by go_num, by rw [HT.out, hst], ?_⟩, by simp [intOf]; omega⟩
                 rw [HT.out, hst, rkOf, if_neg (by omega), Int.toNat_natCast, HA.out]
                 exact m)
              | (rw [Bool.or_false, if_neg (by simp)] at hst
                 refine ⟨⟨k + 1, by omega, by go_num, by rw [HT.out, hst], ?_⟩, by simp [intOf]; omega⟩
                 rw [HT.out, hst, HBB.out]
                 exact m)
        · have LV := Lib.hid (show lexlt (rk3 F fs x k) (rkOf F fs x B) = false by rw [LX.out]; simp; omega)
          have f0 : (a0 < b0) = False := by simp; omega
          have f1 : (a0 == b0) = true := by simp [h0]
          have f2 : (a1 < b1) = False := by simp; omega
          have f3 : (a1 == b1) = false := by simp; omega
          clear h0
          rcases HPK.out with hn | ⟨z, _, _, hn⟩
          all_goals
            subst hn
            clear HPK
            try (have z0 : ¬ ((z : Int) < 0) := by omega)
            go_wp2_with (first
              | (go_at_call 72; go_must (refine (l02Would_any g fb p off F hF fs hfl x hp k hlt _ (M.out.arg HB.out) (M.out.arg HFB.out) (M.out.argrg HX.out)).mono ?_); rintro e w_ ⟨rfl, N_⟩; have m := M.out.join N_; clear N_; simp only [List.cons_append, List.nil_append, List.append_nil] at m; have M := Lib.hid m; clear m; rw [HW.out, HQ.out])
              | (go_at_call 151; go_must (refine (l02Ranks_any g fb p off F hF fs hfl HFF.out x hp k hlt _ (M.out.arg HB.out) (M.out.arg HFB.out) (M.out.argrg HX.out)).mono ?_); rintro e w_ ⟨rfl, N_⟩; have m := M.out.join N_; clear N_; simp only [List.cons_append, List.nil_append, List.append_nil] at m; have M := Lib.hid m; clear m; rw [HA.out])
              | ((with_reducible refine gate_dst (N := 10) rfl ?_); go_must (refine M.out.ev_new rfl (by first | (go_simp; done) | (go_simp; rfl)) ?_); intro g10 w10 m; simp only [List.cons_append, List.nil_append] at m; have M := Lib.hid m; clear m)
              | ((with_reducible refine gate_store (x := .tmp 10) rfl ?_); go_must (refine M.out.ev_stw 1 _ _ _ rfl rfl rfl rfl (ints .i64 [a0, a1, a2]) rfl rfl sz196 (ints_one _ _) rfl ?_); intro wn m; simp only [List.set_cons_succ, List.set_cons_zero] at m; have M := Lib.hid m; clear m; have c0 := M.out.cell (j := 0) (v := .int .i64 a0) 1 rfl rfl; have c1 := M.out.cell (j := 1) (v := .int .i64 a1) 1 rfl rfl; have c2 := M.out.cell (j := 2) (v := .int .i64 a2) 1 rfl rfl; have d0 := M.out.cell (j := 0) (v := .int .i64 b0) 0 rfl rfl; have d1 := M.out.cell (j := 1) (v := .int .i64 b1) 0 rfl rfl; have d2 := M.out.cell (j := 2) (v := .int .i64 b2) 0 rfl rfl)
              | ((with_reducible refine gate_dst (N := 67) rfl ?_); go_must (refine M.out.ev_ldw 1 _ _ rfl rfl rfl Tryz.underlying196 rfl sz196 rfl ?_))
              | ((with_reducible refine gate_store (x := .tmp 8) rfl ?_); go_must (refine M.out.ev_stw 0 _ _ _ rfl rfl rfl rfl (ints .i64 [a0, a1, a2]) rfl rfl sz196 (ints_one _ _) rfl ?_); intro wn m; simp only [List.set_cons_succ, List.set_cons_zero] at m; have M := Lib.hid m; clear m)
              )
            have hst := HK.out
            rw [LV.out] at hst
            have m := M.out.take 1
            first
              | (simp only [Bool.or_true, if_true] at hst
                 refine ⟨⟨k + 1, by omega, by go_num, by rw [HT.out, hst], ?_⟩, by simp [intOf]; omega⟩
                 rw [HT.out, hst, rkOf, if_neg (by omega), Int.toNat_natCast, HA.out]
                 exact m)
              | (rw [Bool.or_false, if_pos (by decide)] at hst
                 refine ⟨⟨k + 1, by omega, by go_num, by rw [HT.out, hst], ?_⟩, by simp [intOf]; omega⟩
                 rw [HT.out, hst, rkOf, if_neg (by omega), Int.toNat_natCast, HA.out]
                 exact m)
              | (rw [Bool.or_false, if_neg (by simp)] at hst
                 refine ⟨⟨k + 1, by omega, by go_num, by rw [HT.out, hst], ?_⟩, by simp [intOf]; omega⟩
                 rw [HT.out, hst, HBB.out]
                 exact m)
        · have LV := Lib.hid (show lexlt (rk3 F fs x k) (rkOf F fs x B) = false by rw [LX.out]; simp; omega)
          have f0 : (a0 < b0) = False := by simp; omega
          have f1 : (a0 == b0) = false := by simp; omega
          rcases HPK.out with hn | ⟨z, _, _, hn⟩
          all_goals
            subst hn
            clear HPK
            try (have z0 : ¬ ((z : Int) < 0) := by omega)
            go_wp2_with (first
              | (go_at_call 72; go_must (refine (l02Would_any g fb p off F hF fs hfl x hp k hlt _ (M.out.arg HB.out) (M.out.arg HFB.out) (M.out.argrg HX.out)).mono ?_); rintro e w_ ⟨rfl, N_⟩; have m := M.out.join N_; clear N_; simp only [List.cons_append, List.nil_append, List.append_nil] at m; have M := Lib.hid m; clear m; rw [HW.out, HQ.out])
              | (go_at_call 151; go_must (refine (l02Ranks_any g fb p off F hF fs hfl HFF.out x hp k hlt _ (M.out.arg HB.out) (M.out.arg HFB.out) (M.out.argrg HX.out)).mono ?_); rintro e w_ ⟨rfl, N_⟩; have m := M.out.join N_; clear N_; simp only [List.cons_append, List.nil_append, List.append_nil] at m; have M := Lib.hid m; clear m; rw [HA.out])
              | ((with_reducible refine gate_dst (N := 10) rfl ?_); go_must (refine M.out.ev_new rfl (by first | (go_simp; done) | (go_simp; rfl)) ?_); intro g10 w10 m; simp only [List.cons_append, List.nil_append] at m; have M := Lib.hid m; clear m)
              | ((with_reducible refine gate_store (x := .tmp 10) rfl ?_); go_must (refine M.out.ev_stw 1 _ _ _ rfl rfl rfl rfl (ints .i64 [a0, a1, a2]) rfl rfl sz196 (ints_one _ _) rfl ?_); intro wn m; simp only [List.set_cons_succ, List.set_cons_zero] at m; have M := Lib.hid m; clear m; have c0 := M.out.cell (j := 0) (v := .int .i64 a0) 1 rfl rfl; have c1 := M.out.cell (j := 1) (v := .int .i64 a1) 1 rfl rfl; have c2 := M.out.cell (j := 2) (v := .int .i64 a2) 1 rfl rfl; have d0 := M.out.cell (j := 0) (v := .int .i64 b0) 0 rfl rfl; have d1 := M.out.cell (j := 1) (v := .int .i64 b1) 0 rfl rfl; have d2 := M.out.cell (j := 2) (v := .int .i64 b2) 0 rfl rfl)
              | ((with_reducible refine gate_dst (N := 67) rfl ?_); go_must (refine M.out.ev_ldw 1 _ _ rfl rfl rfl Tryz.underlying196 rfl sz196 rfl ?_))
              | ((with_reducible refine gate_store (x := .tmp 8) rfl ?_); go_must (refine M.out.ev_stw 0 _ _ _ rfl rfl rfl rfl (ints .i64 [a0, a1, a2]) rfl rfl sz196 (ints_one _ _) rfl ?_); intro wn m; simp only [List.set_cons_succ, List.set_cons_zero] at m; have M := Lib.hid m; clear m)
              )
            have hst := HK.out
            rw [LV.out] at hst
            have m := M.out.take 1
            first
              | (simp only [Bool.or_true, if_true] at hst
                 refine ⟨⟨k + 1, by omega, by go_num, by rw [HT.out, hst], ?_⟩, by simp [intOf]; omega⟩
                 rw [HT.out, hst, rkOf, if_neg (by omega), Int.toNat_natCast, HA.out]
                 exact m)
              | (rw [Bool.or_false, if_pos (by decide)] at hst
                 refine ⟨⟨k + 1, by omega, by go_num, by rw [HT.out, hst], ?_⟩, by simp [intOf]; omega⟩
                 rw [HT.out, hst, rkOf, if_neg (by omega), Int.toNat_natCast, HA.out]
                 exact m)
              | (rw [Bool.or_false, if_neg (by simp)] at hst
                 refine ⟨⟨k + 1, by omega, by go_num, by rw [HT.out, hst], ?_⟩, by simp [intOf]; omega⟩
                 rw [HT.out, hst, HBB.out]
                 exact m)
    · obtain rfl : k = 100 := by omega
      go_wp2
      go_ret
      exact ⟨rfl, M.out.take 0⟩
end Go.Proofs.YtkomhngokcejbaaGreatDoor
