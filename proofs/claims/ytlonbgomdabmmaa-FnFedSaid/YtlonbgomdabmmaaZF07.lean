/- Texts of a proof, laid together: Choice2, Eat, EqF, Visit. -/
import Derived.Test.YtlonbgomdabmmaaZF06
import Derived.Test.YtlonbgomdabmmaaZF01
import Derived.Test.YtlonbgomdabmmaaZF02
import Derived.Test.YtlonbgomdabmmaaZF00
namespace Go.Proofs.Ytlonbgomdabmmaa
set_option linter.unusedSimpArgs false
set_option linter.unusedVariables false
open Go.RowKit
attribute [local go_sem] cell?_mk frozen?_mk

theorem rk3_len (F : Fld) (fs : List Int) (x : Flock) (k : Nat) : (rk3 F fs x k).length = 3 := by
  unfold rk3
  split
  · rfl
  · split <;> rfl
set_option maxRecDepth 100000 in
set_option maxHeartbeats 2000000 in
theorem l02Ranks_any (g fb p off : Nat) {t tf : TypeId} (F : Fld) (hF : F.ok) (fs : List Int) (hfl : fs.length = 100) (hff : ∀ x ∈ fs, -32768 ≤ x ∧ x ≤ 32767) (x : Flock) (hp : x.plain = true) (k : Nat) (hk : k < 100) (w : World) (hb : Blk w g t F.cells) (hfb : Blk w fb tf (ints .i16 fs)) (hx : w.rangeAt p off x.vals) :
    Calls Try.prog 84 #[.pointer (some ⟨g, 0, none⟩), .pointer (some ⟨fb, 0, none⟩), .pointer (some ⟨p, off, none⟩), .int .i64 k] w fun e w' => e = .returned (.agg (ints .i64 (rk3 F fs x k))) ∧ Mem w w' [] := by
  have M := Lib.hid (Mem.start w)
  have Y4 := Lib.hid (hb.cellv (Fld.cellS hF.toLen (k := k) hk))
  have Y5 := Lib.hid (hfb.cellv (ints_at (k := .i16) (xs := fs) (i := k) (by omega)))
  have Y7 := Lib.hid (show w.cell? ⟨p, off, none⟩ = some (.int .i16 x.tree) from hx 0 _ rfl)
  have Y9 := Lib.hid (show w.cell? ⟨p, off + 5, none⟩ = some (.int .i8 x.taste) from hx 5 _ rfl)
  obtain ⟨⟨t0, t1⟩, _, _, ⟨b0, b1⟩, ⟨r0, r1⟩, ⟨s0, s1⟩⟩ := Flock.plain_iff.1 hp
  have i0 : (0 : Int) ≤ (k : Int) := by omega
  have i1 : (k : Int) < 100 := by omega
  have e1 : IntKind.i64.wrap x.tree = x.tree := IntWalk.i64_in _ (by omega)
  have hsb := hF.sb k
  have e2 : IntKind.i64.wrap (F.seed k) = F.seed k := IntWalk.i64_in _ (by omega)
  have e3 := fld_seed_neg hF k
  have hfk : -32768 ≤ gi fs k ∧ gi fs k ≤ 32767 := getD_bound hff (by omega) k
  have e4 : IntKind.i64.wrap (gi fs k) = gi fs k := IntWalk.i64_in _ (by omega)
  have O1 := Lib.hid (ints_one .i64 (rk3 F fs x k))
  clear hb hfb hx hp hsb hfk
  rcases (show x.taste = 0 ∨ x.taste = 1 ∨ x.taste = 2 by omega) with ht | ht | ht
  · have HR := Lib.hid (show rk3 F fs x k = [-F.seed k, sq k x.tree, 0] by rw [rk3, if_pos ht])
    rw [ht] at Y9
    clear ht s0 s1
    go_enter Try.func84, Try.ntmps84
    go_wp2_with (first
      | ((with_reducible refine gate_dst (N := 8) rfl ?_); go_must (refine M.out.ev_new rfl (by first | (go_simp; done) | (go_simp; rfl)) ?_); intro g8 w8 m; simp only [List.nil_append] at m; have M := Lib.hid m; clear m; have y4 := M.out.argcell Y4.out; have y5 := M.out.argcell Y5.out; have y7 := M.out.argcell Y7.out; have y9 := M.out.argcell Y9.out)
      | (go_at_call 92; go_must (refine (l01Square_any _ _ i0 (by omega) t0 t1 _).mono ?_); rintro e w_ ⟨rfl, rfl⟩)
      | ((with_reducible refine gate_store (x := .tmp 8) rfl ?_); go_must (refine M.out.ev_stw 0 _ _ _ rfl rfl rfl rfl (ints .i64 [-F.seed k, sq k x.tree, 0]) rfl rfl sz116 (by first | exact ints_one _ _ | (simp [ints, Value.oneCell'])) rfl ?_); intro wn m; simp only [List.set_cons_zero] at m; have M := Lib.hid m; clear m)
      )
    rw [HR.out]
    exact ret_cell rfl (M.out.blk 0 rfl) Try.underlying116 rfl sz116 rfl ⟨rfl, M.out.take 0⟩
  · have HR := Lib.hid (show rk3 F fs x k = [sq k x.tree, -F.seed k, 0] by rw [rk3, if_neg (by omega), if_pos ht])
    rw [ht] at Y9
    clear ht s0 s1
    go_enter Try.func84, Try.ntmps84
    go_wp2_with (first
      | ((with_reducible refine gate_dst (N := 8) rfl ?_); go_must (refine M.out.ev_new rfl (by first | (go_simp; done) | (go_simp; rfl)) ?_); intro g8 w8 m; simp only [List.nil_append] at m; have M := Lib.hid m; clear m; have y4 := M.out.argcell Y4.out; have y5 := M.out.argcell Y5.out; have y7 := M.out.argcell Y7.out; have y9 := M.out.argcell Y9.out)
      | (go_at_call 92; go_must (refine (l01Square_any _ _ i0 (by omega) t0 t1 _).mono ?_); rintro e w_ ⟨rfl, rfl⟩)
      | ((with_reducible refine gate_store (x := .tmp 8) rfl ?_); go_must (refine M.out.ev_stw 0 _ _ _ rfl rfl rfl rfl (ints .i64 [sq k x.tree, -F.seed k, 0]) rfl rfl sz116 (by first | exact ints_one _ _ | (simp [ints, Value.oneCell'])) rfl ?_); intro wn m; simp only [List.set_cons_zero] at m; have M := Lib.hid m; clear m)
      )
    rw [HR.out]
    exact ret_cell rfl (M.out.blk 0 rfl) Try.underlying116 rfl sz116 rfl ⟨rfl, M.out.take 0⟩
  · have HR := Lib.hid (show rk3 F fs x k = [gi fs k, -F.seed k, sq k x.tree] by rw [rk3, if_neg (by omega), if_neg (by omega)])
    rw [ht] at Y9
    clear ht s0 s1
    go_enter Try.func84, Try.ntmps84
    go_wp2_with (first
      | ((with_reducible refine gate_dst (N := 8) rfl ?_); go_must (refine M.out.ev_new rfl (by first | (go_simp; done) | (go_simp; rfl)) ?_); intro g8 w8 m; simp only [List.nil_append] at m; have M := Lib.hid m; clear m; have y4 := M.out.argcell Y4.out; have y5 := M.out.argcell Y5.out; have y7 := M.out.argcell Y7.out; have y9 := M.out.argcell Y9.out)
      | (go_at_call 92; go_must (refine (l01Square_any _ _ i0 (by omega) t0 t1 _).mono ?_); rintro e w_ ⟨rfl, rfl⟩)
      | ((with_reducible refine gate_store (x := .tmp 8) rfl ?_); go_must (refine M.out.ev_stw 0 _ _ _ rfl rfl rfl rfl (ints .i64 [gi fs k, -F.seed k, sq k x.tree]) rfl rfl sz116 (by first | exact ints_one _ _ | (simp [ints, Value.oneCell'])) rfl ?_); intro wn m; simp only [List.set_cons_zero] at m; have M := Lib.hid m; clear m)
      )
    rw [HR.out]
    exact ret_cell rfl (M.out.blk 0 rfl) Try.underlying116 rfl sz116 rfl ⟨rfl, M.out.take 0⟩
/-- The ranks of the best so far. -/
def rkOf (F : Fld) (fs : List Int) (x : Flock) (b : Int) : List Int := if b < 0 then [0, 0, 0] else rk3 F fs x b.toNat
theorem three {l : List Int} (h : l.length = 3) : ∃ a b c, l = [a, b, c] := by
  match l, h with
  | [a, b, c], _ => exact ⟨a, b, c, rfl⟩
theorem rkOf_len (F : Fld) (fs : List Int) (x : Flock) (b : Int) : (rkOf F fs x b).length = 3 := by
  unfold rkOf
  split
  · rfl
  · exact rk3_len _ _ _ _
def chP (F : Fld) (fs : List Int) (x : Flock) (k : Nat) : Bool := F.has k && goP F fs x k
set_option maxRecDepth 100000 in
set_option maxHeartbeats 4000000 in
theorem l02Choice_any (g fb p off : Nat) {t tf : TypeId} (F : Fld) (hF : F.ok) (fs : List Int) (hfl : fs.length = 100) (hff : ∀ x ∈ fs, -32768 ≤ x ∧ x ≤ 32767) (x : Flock) (hp : x.plain = true) (w : World) (hb : Blk w g t F.cells) (hfb : Blk w fb tf (ints .i16 fs)) (hx : w.rangeAt p off x.vals) :
    Calls Try.prog 70 #[.pointer (some ⟨g, 0, none⟩), .pointer (some ⟨fb, 0, none⟩), .pointer (some ⟨p, off, none⟩)] w fun e w' => e = .returned (.int .i64 (choiceOf F fs x)) ∧ Mem w w' [] := by
  have M := Lib.hid (Mem.start w)
  have HB := Lib.hid hb
  have HFB := Lib.hid hfb
  have HX := Lib.hid hx
  have HFF := Lib.hid hff
  clear hb hfb hx hff
  go_enter Try.func70, Try.ntmps70
  go_wp2_with (first
    | ((with_reducible refine gate_dst (N := 8) rfl ?_); go_must (refine M.out.ev_new rfl (by first | (go_simp; done) | (go_simp; rfl)) ?_); intro g8 w8 m; simp only [List.nil_append] at m; have M := Lib.hid m; clear m)
    | ((with_reducible refine gate_store (x := .tmp 8) rfl ?_); go_must (refine M.out.ev_stw 0 _ _ _ rfl rfl rfl rfl (ints .i64 [0, 0, 0]) rfl rfl sz116 (ints_one _ _) rfl ?_); intro wn m; simp only [List.set_cons_zero] at m; have M := Lib.hid m; clear m)
    )
  go_loopw [7, 9] (fun u v wr => ∃ k : Nat, k ≤ 100 ∧ v = .int .i64 k ∧ u = .int .i64 (pick (chP F fs x) (better F fs x) (List.range k)) ∧ Mem w wr [.blk g8 116 (ints .i64 (rkOf F fs x (pick (chP F fs x) (better F fs x) (List.range k))))])
    (fun _ v _ => 100 - (intOf v).toNat)
  case atStart => exact ⟨0, by omega, rfl, rfl, M.out⟩
  case round =>
    clear M
    obtain ⟨k, hk, rfl, rfl, m⟩ := hrel
    have M := Lib.hid m
    clear m
    by_cases hlt : k < 100
    · have hpk := pick_of (chP F fs x) (better F fs x) (List.range k)
      have HT := Lib.hid (show pick (chP F fs x) (better F fs x) (List.range (k + 1)) = pickStep (chP F fs x) (better F fs x) (pick (chP F fs x) (better F fs x) (List.range k)) k by rw [List.range_succ, pick_snoc])
      obtain ⟨B, hB⟩ : ∃ B, B = pick (chP F fs x) (better F fs x) (List.range k) := ⟨_, rfl⟩
      rw [← hB] at HT hpk M
      rw [← hB]
      clear hB
      have i0 : (0 : Int) ≤ (k : Int) := by omega
      have HW := Lib.hid (show (F.has k && goP F fs x k) = chP F fs x k from rfl)
      cases hq : chP F fs x k
      · have HQ := Lib.hid hq
        clear hq hpk
        go_wp2_with (first
          | (go_at_call 83; go_must (refine (l02Would_any g fb p off F hF fs hfl x hp k hlt _ (M.out.arg HB.out) (M.out.arg HFB.out) (M.out.argrg HX.out)).mono ?_); rintro e w_ ⟨rfl, N_⟩; have m := M.out.join N_; clear N_; simp only [List.cons_append, List.nil_append, List.append_nil] at m; have M := Lib.hid m; clear m; rw [HW.out, HQ.out])
          )
        have hst : pickStep (chP F fs x) (better F fs x) B k = B := by simp [pickStep, HQ.out]
        refine ⟨⟨k + 1, by omega, by go_num, by rw [HT.out, hst], ?_⟩, by simp [intOf]; omega⟩
        rw [HT.out, hst]
        exact M.out
      · have HQ := Lib.hid hq
        clear hq
        obtain ⟨a0, a1, a2, ha⟩ := three (rk3_len F fs x k)
        obtain ⟨b0, b1, b2, hb⟩ := three (rkOf_len F fs x B)
        have HA := Lib.hid ha
        have HBB := Lib.hid hb
        rw [hb] at M
        have LX := Lib.hid (show lexlt (rk3 F fs x k) (rkOf F fs x B) = (decide (a0 < b0) || (decide (a0 = b0) && (decide (a1 < b1) || (decide (a1 = b1) && (decide (a2 < b2) || (decide (a2 = b2) && false)))))) by rw [ha, hb]; simp [lexlt])
        have HK := Lib.hid (show pickStep (chP F fs x) (better F fs x) B k = if (decide (B < 0) || lexlt (rk3 F fs x k) (rkOf F fs x B)) = true then (k : Int) else B by
          unfold pickStep rkOf
          rw [HQ.out, Bool.true_and]
          by_cases hn : B < 0
          · simp [hn]
          · rw [if_neg hn, better3])
        have HPK := Lib.hid hpk
        clear ha hb hpk
        have hsp : a0 < b0 ∨ (a0 = b0 ∧ a1 < b1) ∨ (a0 = b0 ∧ a1 = b1 ∧ a2 < b2) ∨ (a0 = b0 ∧ a1 = b1 ∧ ¬ (a2 < b2)) ∨ (a0 = b0 ∧ b1 < a1) ∨ b0 < a0 := by omega
        rcases hsp with h0 | ⟨h0, h1⟩ | ⟨h0, h1, h2⟩ | ⟨h0, h1, h2⟩ | ⟨h0, h1⟩ | h0
        · have LV := Lib.hid (show lexlt (rk3 F fs x k) (rkOf F fs x B) = true by rw [LX.out]; simp; omega)
          rcases HPK.out with hn | ⟨z, _, _, hn⟩
          all_goals
            subst hn
            clear HPK
            try (have z0 : ¬ ((z : Int) < 0) := by omega)
            go_wp2_with (first
              | (go_at_call 83; go_must (refine (l02Would_any g fb p off F hF fs hfl x hp k hlt _ (M.out.arg HB.out) (M.out.arg HFB.out) (M.out.argrg HX.out)).mono ?_); rintro e w_ ⟨rfl, N_⟩; have m := M.out.join N_; clear N_; simp only [List.cons_append, List.nil_append, List.append_nil] at m; have M := Lib.hid m; clear m; rw [HW.out, HQ.out])
              | (go_at_call 84; go_must (refine (l02Ranks_any g fb p off F hF fs hfl HFF.out x hp k hlt _ (M.out.arg HB.out) (M.out.arg HFB.out) (M.out.argrg HX.out)).mono ?_); rintro e w_ ⟨rfl, N_⟩; have m := M.out.join N_; clear N_; simp only [List.cons_append, List.nil_append, List.append_nil] at m; have M := Lib.hid m; clear m; rw [HA.out])
              | ((with_reducible refine gate_dst (N := 10) rfl ?_); go_must (refine M.out.ev_new rfl (by first | (go_simp; done) | (go_simp; rfl)) ?_); intro g10 w10 m; simp only [List.cons_append, List.nil_append] at m; have M := Lib.hid m; clear m)
              | ((with_reducible refine gate_store (x := .tmp 10) rfl ?_); go_must (refine M.out.ev_stw 1 _ _ _ rfl rfl rfl rfl (ints .i64 [a0, a1, a2]) rfl rfl sz116 (ints_one _ _) rfl ?_); intro wn m; simp only [List.set_cons_succ, List.set_cons_zero] at m; have M := Lib.hid m; clear m; have c0 := M.out.cell (j := 0) (v := .int .i64 a0) 1 rfl rfl; have c1 := M.out.cell (j := 1) (v := .int .i64 a1) 1 rfl rfl; have c2 := M.out.cell (j := 2) (v := .int .i64 a2) 1 rfl rfl; have d0 := M.out.cell (j := 0) (v := .int .i64 b0) 0 rfl rfl; have d1 := M.out.cell (j := 1) (v := .int .i64 b1) 0 rfl rfl; have d2 := M.out.cell (j := 2) (v := .int .i64 b2) 0 rfl rfl)
              | ((with_reducible refine gate_dst (N := 67) rfl ?_); go_must (refine M.out.ev_ldw 1 _ _ rfl rfl rfl Try.underlying116 rfl sz116 rfl ?_))
              | ((with_reducible refine gate_store (x := .tmp 8) rfl ?_); go_must (refine M.out.ev_stw 0 _ _ _ rfl rfl rfl rfl (ints .i64 [a0, a1, a2]) rfl rfl sz116 (ints_one _ _) rfl ?_); intro wn m; simp only [List.set_cons_succ, List.set_cons_zero] at m; have M := Lib.hid m; clear m)
              )
            have hst := HK.out
            rw [LV.out] at hst
            have m := M.out.take 1
            first
              | (simp only [Bool.or_true, if_true] at hst
                 refine ⟨⟨k + 1, by omega, by go_num, by rw [HT.out, hst], ?_⟩, by simp [intOf]; omega⟩
                 rw [HT.out, hst, rkOf, if_neg (by omega), Int.toNat_natCast, HA.out]
                 exact m)
              | (rw [Bool.or_false, if_pos (by decide)] at hst
                 refine ⟨⟨k + 1, by omega, by go_num, by rw [HT.out, hst], ?_⟩, by simp [intOf]; omega⟩
                 rw [HT.out, hst, rkOf, if_neg (by omega), Int.toNat_natCast, HA.out]
                 exact m)
              | (rw [Bool.or_false, if_neg (by simp)] at hst
                 refine ⟨⟨k + 1, by omega, by go_num, by rw [HT.out, hst], ?_⟩, by simp [intOf]; omega⟩
                 rw [HT.out, hst, HBB.out]
                 exact m)
        · have LV := Lib.hid (show lexlt (rk3 F fs x k) (rkOf F fs x B) = true by rw [LX.out]; simp; omega)
          have f0 : (a0 < b0) = False := by simp; omega
          have f1 : (a0 == b0) = true := by simp [h0]
          clear h0
          rcases HPK.out with hn | ⟨z, _, _, hn⟩
          all_goals
            subst hn
            clear HPK
            try (have z0 : ¬ ((z : Int) < 0) := by omega)
            go_wp2_with (first
              | (go_at_call 83; go_must (refine (l02Would_any g fb p off F hF fs hfl x hp k hlt _ (M.out.arg HB.out) (M.out.arg HFB.out) (M.out.argrg HX.out)).mono ?_); rintro e w_ ⟨rfl, N_⟩; have m := M.out.join N_; clear N_; simp only [List.cons_append, List.nil_append, List.append_nil] at m; have M := Lib.hid m; clear m; rw [HW.out, HQ.out])
              | (go_at_call 84; go_must (refine (l02Ranks_any g fb p off F hF fs hfl HFF.out x hp k hlt _ (M.out.arg HB.out) (M.out.arg HFB.out) (M.out.argrg HX.out)).mono ?_); rintro e w_ ⟨rfl, N_⟩; have m := M.out.join N_; clear N_; simp only [List.cons_append, List.nil_append, List.append_nil] at m; have M := Lib.hid m; clear m; rw [HA.out])
              | ((with_reducible refine gate_dst (N := 10) rfl ?_); go_must (refine M.out.ev_new rfl (by first | (go_simp; done) | (go_simp; rfl)) ?_); intro g10 w10 m; simp only [List.cons_append, List.nil_append] at m; have M := Lib.hid m; clear m)
              | ((with_reducible refine gate_store (x := .tmp 10) rfl ?_); go_must (refine M.out.ev_stw 1 _ _ _ rfl rfl rfl rfl (ints .i64 [a0, a1, a2]) rfl rfl sz116 (ints_one _ _) rfl ?_); intro wn m; simp only [List.set_cons_succ, List.set_cons_zero] at m; have M := Lib.hid m; clear m; have c0 := M.out.cell (j := 0) (v := .int .i64 a0) 1 rfl rfl; have c1 := M.out.cell (j := 1) (v := .int .i64 a1) 1 rfl rfl; have c2 := M.out.cell (j := 2) (v := .int .i64 a2) 1 rfl rfl; have d0 := M.out.cell (j := 0) (v := .int .i64 b0) 0 rfl rfl; have d1 := M.out.cell (j := 1) (v := .int .i64 b1) 0 rfl rfl; have d2 := M.out.cell (j := 2) (v := .int .i64 b2) 0 rfl rfl)
              | ((with_reducible refine gate_dst (N := 67) rfl ?_); go_must (refine M.out.ev_ldw 1 _ _ rfl rfl rfl Try.underlying116 rfl sz116 rfl ?_))
              | ((with_reducible refine gate_store (x := .tmp 8) rfl ?_); go_must (refine M.out.ev_stw 0 _ _ _ rfl rfl rfl rfl (ints .i64 [a0, a1, a2]) rfl rfl sz116 (ints_one _ _) rfl ?_); intro wn m; simp only [List.set_cons_succ, List.set_cons_zero] at m; have M := Lib.hid m; clear m)
              )
            have hst := HK.out
            rw [LV.out] at hst
            have m := M.out.take 1
            first
              | (simp only [Bool.or_true, if_true] at hst
                 refine ⟨⟨k + 1, by omega, by go_num, by rw [HT.out, hst], ?_⟩, by simp [intOf]; omega⟩
                 rw [HT.out, hst, rkOf, if_neg (by omega), Int.toNat_natCast, HA.out]
                 exact m)
              | (rw [Bool.or_false, if_pos (by decide)] at hst
                 refine ⟨⟨k + 1, by omega, by go_num, by rw [HT.out, hst], ?_⟩, by simp [intOf]; omega⟩
                 rw [HT.out, hst, rkOf, if_neg (by omega), Int.toNat_natCast, HA.out]
                 exact m)
              | (rw [Bool.or_false, if_neg (by simp)] at hst
                 refine ⟨⟨k + 1, by omega, by go_num, by rw [HT.out, hst], ?_⟩, by simp [intOf]; omega⟩
                 rw [HT.out, hst, HBB.out]
                 exact m)
        · have LV := Lib.hid (show lexlt (rk3 F fs x k) (rkOf F fs x B) = true by rw [LX.out]; simp; omega)
          have f0 : (a0 < b0) = False := by simp; omega
          have f1 : (a0 == b0) = true := by simp [h0]
          have f2 : (a1 < b1) = False := by simp; omega
          have f3 : (a1 == b1) = true := by simp [h1]
          clear h0 h1
          rcases HPK.out with hn | ⟨z, _, _, hn⟩
          all_goals
            subst hn
            clear HPK
            try (have z0 : ¬ ((z : Int) < 0) := by omega)
            go_wp2_with (first
              | (go_at_call 83; go_must (refine (l02Would_any g fb p off F hF fs hfl x hp k hlt _ (M.out.arg HB.out) (M.out.arg HFB.out) (M.out.argrg HX.out)).mono ?_); rintro e w_ ⟨rfl, N_⟩; have m := M.out.join N_; clear N_; simp only [List.cons_append, List.nil_append, List.append_nil] at m; have M := Lib.hid m; clear m; rw [HW.out, HQ.out])
              | (go_at_call 84; go_must (refine (l02Ranks_any g fb p off F hF fs hfl HFF.out x hp k hlt _ (M.out.arg HB.out) (M.out.arg HFB.out) (M.out.argrg HX.out)).mono ?_); rintro e w_ ⟨rfl, N_⟩; have m := M.out.join N_; clear N_; simp only [List.cons_append, List.nil_append, List.append_nil] at m; have M := Lib.hid m; clear m; rw [HA.out])
              | ((with_reducible refine gate_dst (N := 10) rfl ?_); go_must (refine M.out.ev_new rfl (by first | (go_simp; done) | (go_simp; rfl)) ?_); intro g10 w10 m; simp only [List.cons_append, List.nil_append] at m; have M := Lib.hid m; clear m)
              | ((with_reducible refine gate_store (x := .tmp 10) rfl ?_); go_must (refine M.out.ev_stw 1 _ _ _ rfl rfl rfl rfl (ints .i64 [a0, a1, a2]) rfl rfl sz116 (ints_one _ _) rfl ?_); intro wn m; simp only [List.set_cons_succ, List.set_cons_zero] at m; have M := Lib.hid m; clear m; have c0 := M.out.cell (j := 0) (v := .int .i64 a0) 1 rfl rfl; have c1 := M.out.cell (j := 1) (v := .int .i64 a1) 1 rfl rfl; have c2 := M.out.cell (j := 2) (v := .int .i64 a2) 1 rfl rfl; have d0 := M.out.cell (j := 0) (v := .int .i64 b0) 0 rfl rfl; have d1 := M.out.cell (j := 1) (v := .int .i64 b1) 0 rfl rfl; have d2 := M.out.cell (j := 2) (v := .int .i64 b2) 0 rfl rfl)
              | ((with_reducible refine gate_dst (N := 67) rfl ?_); go_must (refine M.out.ev_ldw 1 _ _ rfl rfl rfl Try.underlying116 rfl sz116 rfl ?_))
              | ((with_reducible refine gate_store (x := .tmp 8) rfl ?_); go_must (refine M.out.ev_stw 0 _ _ _ rfl rfl rfl rfl (ints .i64 [a0, a1, a2]) rfl rfl sz116 (ints_one _ _) rfl ?_); intro wn m; simp only [List.set_cons_succ, List.set_cons_zero] at m; have M := Lib.hid m; clear m)
              )
            have hst := HK.out
            rw [LV.out] at hst
            have m := M.out.take 1
            first
              | (simp only [Bool.or_true, if_true] at hst
                 refine ⟨⟨k + 1, by omega, by go_num, by rw [HT.out, hst], ?_⟩, by simp [intOf]; omega⟩
                 rw [HT.out, hst, rkOf, if_neg (by omega), Int.toNat_natCast, HA.out]
                 exact m)
              | (rw [Bool.or_false, if_pos (by decide)] at hst
                 refine ⟨⟨k + 1, by omega, by go_num, by rw [HT.out, hst], ?_⟩, by simp [intOf]; omega⟩
                 rw [HT.out, hst, rkOf, if_neg (by omega), Int.toNat_natCast, HA.out]
                 exact m)
              | (rw [Bool.or_false, if_neg (by simp)] at hst
                 refine ⟨⟨k + 1, by omega, by go_num, by rw [HT.out, hst], ?_⟩, by simp [intOf]; omega⟩
                 rw [HT.out, hst, HBB.out]
                 exact m)
        · have LV := Lib.hid (show lexlt (rk3 F fs x k) (rkOf F fs x B) = false by rw [LX.out]; simp; omega)
          have f0 : (a0 < b0) = False := by simp; omega
          have f1 : (a0 == b0) = true := by simp [h0]
          have f2 : (a1 < b1) = False := by simp; omega
          have f3 : (a1 == b1) = true := by simp [h1]
          clear h0 h1
          rcases HPK.out with hn | ⟨z, _, _, hn⟩
          all_goals
            subst hn
            clear HPK
            try (have z0 : ¬ ((z : Int) < 0) := by omega)
            go_wp2_with (first
              | (go_at_call 83; go_must (refine (l02Would_any g fb p off F hF fs hfl x hp k hlt _ (M.out.arg HB.out) (M.out.arg HFB.out) (M.out.argrg HX.out)).mono ?_); rintro e w_ ⟨rfl, N_⟩; have m := M.out.join N_; clear N_; simp only [List.cons_append, List.nil_append, List.append_nil] at m; have M := Lib.hid m; clear m; rw [HW.out, HQ.out])
              | (go_at_call 84; go_must (refine (l02Ranks_any g fb p off F hF fs hfl HFF.out x hp k hlt _ (M.out.arg HB.out) (M.out.arg HFB.out) (M.out.argrg HX.out)).mono ?_); rintro e w_ ⟨rfl, N_⟩; have m := M.out.join N_; clear N_; simp only [List.cons_append, List.nil_append, List.append_nil] at m; have M := Lib.hid m; clear m; rw [HA.out])
              | ((with_reducible refine gate_dst (N := 10) rfl ?_); go_must (refine M.out.ev_new rfl (by first | (go_simp; done) | (go_simp; rfl)) ?_); intro g10 w10 m; simp only [List.cons_append, List.nil_append] at m; have M := Lib.hid m; clear m)
              | ((with_reducible refine gate_store (x := .tmp 10) rfl ?_); go_must (refine M.out.ev_stw 1 _ _ _ rfl rfl rfl rfl (ints .i64 [a0, a1, a2]) rfl rfl sz116 (ints_one _ _) rfl ?_); intro wn m; simp only [List.set_cons_succ, List.set_cons_zero] at m; have M := Lib.hid m; clear m; have c0 := M.out.cell (j := 0) (v := .int .i64 a0) 1 rfl rfl; have c1 := M.out.cell (j := 1) (v := .int .i64 a1) 1 rfl rfl; have c2 := M.out.cell (j := 2) (v := .int .i64 a2) 1 rfl rfl; have d0 := M.out.cell (j := 0) (v := .int .i64 b0) 0 rfl rfl; have d1 := M.out.cell (j := 1) (v := .int .i64 b1) 0 rfl rfl; have d2 := M.out.cell (j := 2) (v := .int .i64 b2) 0 rfl rfl)
              | ((with_reducible refine gate_dst (N := 67) rfl ?_); go_must (refine M.out.ev_ldw 1 _ _ rfl rfl rfl Try.underlying116 rfl sz116 rfl ?_))
              | ((with_reducible refine gate_store (x := .tmp 8) rfl ?_); go_must (refine M.out.ev_stw 0 _ _ _ rfl rfl rfl rfl (ints .i64 [a0, a1, a2]) rfl rfl sz116 (ints_one _ _) rfl ?_); intro wn m; simp only [List.set_cons_succ, List.set_cons_zero] at m; have M := Lib.hid m; clear m)
              )
            have hst := HK.out
            rw [LV.out] at hst
            have m := M.out.take 1
            first
              | (simp only [Bool.or_true, if_true] at hst
                 refine ⟨⟨k + 1, by omega, by go_num, by rw [HT.out, hst], ?_⟩, by simp [intOf]; omega⟩
                 rw [HT.out, hst, rkOf, if_neg (by omega), Int.toNat_natCast, HA.out]
                 exact m)
              | (rw [Bool.or_false, if_pos (by decide)] at hst
                 refine ⟨⟨k + 1, by omega, by go_num, by rw [HT.out, hst], ?_⟩, by simp [intOf]; omega⟩
                 rw [HT.out, hst, rkOf, if_neg (by omega), Int.toNat_natCast, HA.out]
                 exact m)
              | (rw [Bool.or_false, if_neg (by simp)] at hst
                 refine ⟨⟨k + 1, by omega, by go_num, by rw [HT.out, hst], ?_⟩, by simp [intOf]; omega⟩
                 rw [HT.out, hst, HBB.out]
                 exact m)
        · have LV := Lib.hid (show lexlt (rk3 F fs x k) (rkOf F fs x B) = false by rw [LX.out]; simp; omega)
          have f0 : (a0 < b0) = False := by simp; omega
          have f1 : (a0 == b0) = true := by simp [h0]
          have f2 : (a1 < b1) = False := by simp; omega
          have f3 : (a1 == b1) = false := by simp; omega
          clear h0
          rcases HPK.out with hn | ⟨z, _, _, hn⟩
          all_goals
            subst hn
            clear HPK
            try (have z0 : ¬ ((z : Int) < 0) := by omega)
            go_wp2_with (first
              | (go_at_call 83; go_must (refine (l02Would_any g fb p off F hF fs hfl x hp k hlt _ (M.out.arg HB.out) (M.out.arg HFB.out) (M.out.argrg HX.out)).mono ?_); rintro e w_ ⟨rfl, N_⟩; have m := M.out.join N_; clear N_; simp only [List.cons_append, List.nil_append, List.append_nil] at m; have M := Lib.hid m; clear m; rw [HW.out, HQ.out])
              | (go_at_call 84; go_must (refine (l02Ranks_any g fb p off F hF fs hfl HFF.out x hp k hlt _ (M.out.arg HB.out) (M.out.arg HFB.out) (M.out.argrg HX.out)).mono ?_); rintro e w_ ⟨rfl, N_⟩; have m := M.out.join N_; clear N_; simp only [List.cons_append, List.nil_append, List.append_nil] at m; have M := Lib.hid m; clear m; rw [HA.out])
              | ((with_reducible refine gate_dst (N := 10) rfl ?_); go_must (refine M.out.ev_new rfl (by first | (go_simp; done) | (go_simp; rfl)) ?_); intro g10 w10 m; simp only [List.cons_append, List.nil_append] at m; have M := Lib.hid m; clear m)
              | ((with_reducible refine gate_store (x := .tmp 10) rfl ?_); go_must (refine M.out.ev_stw 1 _ _ _ rfl rfl rfl rfl (ints .i64 [a0, a1, a2]) rfl rfl sz116 (ints_one _ _) rfl ?_); intro wn m; simp only [List.set_cons_succ, List.set_cons_zero] at m; have M := Lib.hid m; clear m; have c0 := M.out.cell (j := 0) (v := .int .i64 a0) 1 rfl rfl; have c1 := M.out.cell (j := 1) (v := .int .i64 a1) 1 rfl rfl; have c2 := M.out.cell (j := 2) (v := .int .i64 a2) 1 rfl rfl; have d0 := M.out.cell (j := 0) (v := .int .i64 b0) 0 rfl rfl; have d1 := M.out.cell (j := 1) (v := .int .i64 b1) 0 rfl rfl; have d2 := M.out.cell (j := 2) (v := .int .i64 b2) 0 rfl rfl)
              | ((with_reducible refine gate_dst (N := 67) rfl ?_); go_must (refine M.out.ev_ldw 1 _ _ rfl rfl rfl Try.underlying116 rfl sz116 rfl ?_))
              | ((with_reducible refine gate_store (x := .tmp 8) rfl ?_); go_must (refine M.out.ev_stw 0 _ _ _ rfl rfl rfl rfl (ints .i64 [a0, a1, a2]) rfl rfl sz116 (ints_one _ _) rfl ?_); intro wn m; simp only [List.set_cons_succ, List.set_cons_zero] at m; have M := Lib.hid m; clear m)
              )
            have hst := HK.out
            rw [LV.out] at hst
            have m := M.out.take 1
            first
              | (simp only [Bool.or_true, if_true] at hst
                 refine ⟨⟨k + 1, by omega, by go_num, by rw [HT.out, hst], ?_⟩, by simp [intOf]; omega⟩
                 rw [HT.out, hst, rkOf, if_neg (by omega), Int.toNat_natCast, HA.out]
                 exact m)
              | (rw [Bool.or_false, if_pos (by decide)] at hst
                 refine ⟨⟨k + 1, by omega, by go_num, by rw [HT.out, hst], ?_⟩, by simp [intOf]; omega⟩
                 rw [HT.out, hst, rkOf, if_neg (by omega), Int.toNat_natCast, HA.out]
                 exact m)
              | (rw [Bool.or_false, if_neg (by simp)] at hst
                 refine ⟨⟨k + 1, by omega, by go_num, by rw [HT.out, hst], ?_⟩, by simp [intOf]; omega⟩
                 rw [HT.out, hst, HBB.out]
                 exact m)
        · have LV := Lib.hid (show lexlt (rk3 F fs x k) (rkOf F fs x B) = false by rw [LX.out]; simp; omega)
          have f0 : (a0 < b0) = False := by simp; omega
          have f1 : (a0 == b0) = false := by simp; omega
          rcases HPK.out with hn | ⟨z, _, _, hn⟩
          all_goals
            subst hn
            clear HPK
            try (have z0 : ¬ ((z : Int) < 0) := by omega)
            go_wp2_with (first
              | (go_at_call 83; go_must (refine (l02Would_any g fb p off F hF fs hfl x hp k hlt _ (M.out.arg HB.out) (M.out.arg HFB.out) (M.out.argrg HX.out)).mono ?_); rintro e w_ ⟨rfl, N_⟩; have m := M.out.join N_; clear N_; simp only [List.cons_append, List.nil_append, List.append_nil] at m; have M := Lib.hid m; clear m; rw [HW.out, HQ.out])
              | (go_at_call 84; go_must (refine (l02Ranks_any g fb p off F hF fs hfl HFF.out x hp k hlt _ (M.out.arg HB.out) (M.out.arg HFB.out) (M.out.argrg HX.out)).mono ?_); rintro e w_ ⟨rfl, N_⟩; have m := M.out.join N_; clear N_; simp only [List.cons_append, List.nil_append, List.append_nil] at m; have M := Lib.hid m; clear m; rw [HA.out])
              | ((with_reducible refine gate_dst (N := 10) rfl ?_); go_must (refine M.out.ev_new rfl (by first | (go_simp; done) | (go_simp; rfl)) ?_); intro g10 w10 m; simp only [List.cons_append, List.nil_append] at m; have M := Lib.hid m; clear m)
              | ((with_reducible refine gate_store (x := .tmp 10) rfl ?_); go_must (refine M.out.ev_stw 1 _ _ _ rfl rfl rfl rfl (ints .i64 [a0, a1, a2]) rfl rfl sz116 (ints_one _ _) rfl ?_); intro wn m; simp only [List.set_cons_succ, List.set_cons_zero] at m; have M := Lib.hid m; clear m; have c0 := M.out.cell (j := 0) (v := .int .i64 a0) 1 rfl rfl; have c1 := M.out.cell (j := 1) (v := .int .i64 a1) 1 rfl rfl; have c2 := M.out.cell (j := 2) (v := .int .i64 a2) 1 rfl rfl; have d0 := M.out.cell (j := 0) (v := .int .i64 b0) 0 rfl rfl; have d1 := M.out.cell (j := 1) (v := .int .i64 b1) 0 rfl rfl; have d2 := M.out.cell (j := 2) (v := .int .i64 b2) 0 rfl rfl)
              | ((with_reducible refine gate_dst (N := 67) rfl ?_); go_must (refine M.out.ev_ldw 1 _ _ rfl rfl rfl Try.underlying116 rfl sz116 rfl ?_))
              | ((with_reducible refine gate_store (x := .tmp 8) rfl ?_); go_must (refine M.out.ev_stw 0 _ _ _ rfl rfl rfl rfl (ints .i64 [a0, a1, a2]) rfl rfl sz116 (ints_one _ _) rfl ?_); intro wn m; simp only [List.set_cons_succ, List.set_cons_zero] at m; have M := Lib.hid m; clear m)
              )
            have hst := HK.out
            rw [LV.out] at hst
            have m := M.out.take 1
            first
              | (simp only [Bool.or_true, if_true] at hst
                 refine ⟨⟨k + 1, by omega, by go_num, by rw [HT.out, hst], ?_⟩, by simp [intOf]; omega⟩
                 rw [HT.out, hst, rkOf, if_neg (by omega), Int.toNat_natCast, HA.out]
                 exact m)
              | (rw [Bool.or_false, if_pos (by decide)] at hst
                 refine ⟨⟨k + 1, by omega, by go_num, by rw [HT.out, hst], ?_⟩, by simp [intOf]; omega⟩
                 rw [HT.out, hst, rkOf, if_neg (by omega), Int.toNat_natCast, HA.out]
                 exact m)
              | (rw [Bool.or_false, if_neg (by simp)] at hst
                 refine ⟨⟨k + 1, by omega, by go_num, by rw [HT.out, hst], ?_⟩, by simp [intOf]; omega⟩
                 rw [HT.out, hst, HBB.out]
                 exact m)
    · obtain rfl : k = 100 := by omega
      go_wp2
      go_ret
      exact ⟨rfl, M.out.take 0⟩
end Go.Proofs.Ytlonbgomdabmmaa
namespace Go.Proofs.Ytlonbgomdabmmaa
set_option linter.unusedSimpArgs false
set_option linter.unusedVariables false
open Go.RowKit
attribute [local go_sem] cell?_mk frozen?_mk

def Flock.hunger (x : Flock) : Int := x.birds * x.eats
theorem hunger_small {x : Flock} (h : x.plain = true) : 0 ≤ x.hunger ∧ x.hunger ≤ 4000 := by
  obtain ⟨_, ⟨b0, b1⟩, ⟨e0, e1⟩, _⟩ := Flock.plain_iff.1 h
  refine ⟨Int.mul_nonneg b0 e0, ?_⟩
  have := Int.mul_le_mul b1 e1 e0 (by omega : (0 : Int) ≤ 200)
  unfold Flock.hunger
  omega
def Fld.eatN (F : Fld) (k : Nat) (m : Int) : Int := min m (F.seed k)
def Fld.eat (F : Fld) (k : Nat) (m : Int) : Fld := F.withSeed k (F.seed k - F.eatN k m)
theorem Fld.withSeed_ok {F : Fld} (h : F.ok) (k : Nat) (x : Int) (hx : -32768 ≤ x ∧ x ≤ 32767) : (F.withSeed k x).ok :=
  { toLen := Fld.withSeed_len h.toLen k x, w0 := h.w0, w1 := h.w1, h0 := h.h0, h1 := h.h1, k0 := h.k0,
    s0 := fun y hy => by
      rcases List.mem_or_eq_of_mem_set hy with h1 | h1
      · exact h.s0 y h1
      · rw [h1]; exact hx }
theorem Fld.eat_ok {F : Fld} (h : F.ok) (k : Nat) {m : Int} (hm : 0 ≤ m) (hs : 0 ≤ F.seed k) : (F.eat k m).ok := by
  have := h.sb k
  exact Fld.withSeed_ok h k _ (by unfold Fld.eatN; omega)
set_option maxRecDepth 100000 in
set_option maxHeartbeats 1000000 in
theorem hunger_any (p off : Nat) (x : Flock) (hp : x.plain = true) (w : World) (hx : w.rangeAt p off x.vals) :
    Calls Try.prog 44 #[.pointer (some ⟨p, off, none⟩)] w fun e w' => e = .returned (.int .i64 x.hunger) ∧ Mem w w' [] := by
  have M := Lib.hid (Mem.start w)
  have y1 : w.cell? ⟨p, off + 1, none⟩ = some (.int .i16 x.birds) := hx 1 _ rfl
  have y2 : w.cell? ⟨p, off + 2, none⟩ = some (.int .i16 x.eats) := hx 2 _ rfl
  obtain ⟨_, ⟨b0, b1⟩, ⟨e0, e1⟩, _⟩ := Flock.plain_iff.1 hp
  have w1 : IntKind.i64.wrap x.birds = x.birds := IntWalk.i64_in _ (by omega)
  have w2 : IntKind.i64.wrap x.eats = x.eats := IntWalk.i64_in _ (by omega)
  have hs := hunger_small hp
  have w3 : IntKind.i64.wrap (x.birds * x.eats) = x.birds * x.eats := IntWalk.i64_in _ (by unfold Flock.hunger at hs; omega)
  clear hx hp
  go_enter Try.func44, Try.ntmps44
  go_wp2_with fail
  go_quiet (fail)
  have M := Lib.hid (M.out.drewN nq)
  go_wp2
  go_ret
  exact ⟨ret_int rfl, M.out⟩
set_option maxRecDepth 100000 in
set_option maxHeartbeats 1000000 in
theorem l02Hunger_any (p off : Nat) (x : Flock) (hp : x.plain = true) (w : World) (hx : w.rangeAt p off x.vals) :
    Calls Try.prog 69 #[.pointer (some ⟨p, off, none⟩)] w fun e w' => e = .returned (.int .i64 x.hunger) ∧ Mem w w' [] := by
  have M := Lib.hid (Mem.start w)
  have y1 : w.cell? ⟨p, off + 1, none⟩ = some (.int .i16 x.birds) := hx 1 _ rfl
  have y2 : w.cell? ⟨p, off + 2, none⟩ = some (.int .i16 x.eats) := hx 2 _ rfl
  obtain ⟨_, ⟨b0, b1⟩, ⟨e0, e1⟩, _⟩ := Flock.plain_iff.1 hp
  have w1 : IntKind.i64.wrap x.birds = x.birds := IntWalk.i64_in _ (by omega)
  have w2 : IntKind.i64.wrap x.eats = x.eats := IntWalk.i64_in _ (by omega)
  have hs := hunger_small hp
  have w3 : IntKind.i64.wrap (x.birds * x.eats) = x.birds * x.eats := IntWalk.i64_in _ (by unfold Flock.hunger at hs; omega)
  clear hx hp
  go_enter Try.func69, Try.ntmps69
  go_wp2_with fail
  go_quiet (fail)
  have M := Lib.hid (M.out.drewN nq)
  go_wp2
  go_ret
  exact ⟨ret_int rfl, M.out⟩
set_option maxRecDepth 100000 in
set_option maxHeartbeats 2000000 in
theorem take_any {w0 w : World} {L : List Ent} (i : Nat) (M0 : Mem w0 w L) (g : Nat) {t : TypeId} (F : Fld) (hF : F.ok) (hL : L[i]? = some (.blk g t F.cells)) (k : Nat) (hk : k < 100) (m : Int) (hm : 0 ≤ m) (hs : 0 ≤ F.seed k) :
    Calls Try.prog 50 #[.pointer (some ⟨g, 0, none⟩), .int .i64 k, .int .i64 m] w fun e w' => e = .returned (.int .i64 (F.eatN k m)) ∧ Mem w0 w' (L.set i (.blk g t (F.eat k m).cells)) := by
  have M := Lib.hid M0
  have HL := Lib.hid hL
  have i0 : (0 : Int) ≤ (k : Int) := by omega
  have i1 : (k : Int) < 100 := by omega
  have hsb := hF.sb k
  have c0 := M.out.cell i HL.out (Fld.cellS hF.toLen hk)
  have e1 : IntKind.i64.wrap (F.seed k) = F.seed k := IntWalk.i64_in _ (by omega)
  have SZ := Lib.hid (show 102 + k < F.cells.size by rw [Fld.size hF.toLen]; omega)
  have ST := Lib.hid (Fld.setSeed hF.toLen k (F.seed k - F.eatN k m))
  clear M0 hL
  rcases Int.lt_trichotomy m (F.seed k) with h | h | h
  · have e2 : IntKind.i16.wrap m = m := IntWalk.i16_in _ (by omega)
    have e3 : IntKind.i16.wrap (F.seed k - m) = F.seed k - m := IntWalk.i16_in _ (by omega)
    have HN := Lib.hid (show F.eatN k m = m by unfold Fld.eatN; omega)
    go_enter Try.func50, Try.ntmps50
    go_wp2_with fail
    go_still_tail 12, (by kernel_rfl)
    have M := Lib.hid M.out.drew
    go_wp2_with (first
      | ((with_reducible refine gate_store (x := .tmp 28) rfl ?_); go_must (refine M.out.ev_put i _ _ _ rfl rfl HL.out rfl (.int .i16 (F.seed k - m)) rfl SZ.out sz26 rfl rfl ?_); intro wn mm; have M := Lib.hid mm; clear mm)
      )
    go_ret
    have st := ST.out
    rw [HN.out] at st
    have mm := M.out
    rw [st] at mm
    exact ⟨ret_int HN.out.symm, by rw [Fld.eat, HN.out]; exact mm⟩
  · have e2 : IntKind.i16.wrap (F.seed k) = F.seed k := IntWalk.i16_in _ (by omega)
    have e3 : IntKind.i16.wrap 0 = 0 := by decide
    have HN := Lib.hid (show F.eatN k m = F.seed k by unfold Fld.eatN; omega)
    subst h
    go_enter Try.func50, Try.ntmps50
    go_wp2_with fail
    go_still_tail 12, (by kernel_rfl)
    have M := Lib.hid M.out.drew
    go_wp2_with (first
      | ((with_reducible refine gate_store (x := .tmp 28) rfl ?_); go_must (refine M.out.ev_put i _ _ _ rfl rfl HL.out rfl (.int .i16 0) rfl SZ.out sz26 rfl rfl ?_); intro wn mm; have M := Lib.hid mm; clear mm)
      )
    go_ret
    have st := ST.out
    rw [HN.out, Int.sub_self] at st
    have mm := M.out
    rw [st] at mm
    exact ⟨ret_int HN.out.symm, by rw [Fld.eat, HN.out, Int.sub_self]; exact mm⟩
  · have e2 : IntKind.i16.wrap (F.seed k) = F.seed k := IntWalk.i16_in _ (by omega)
    have e3 : IntKind.i16.wrap 0 = 0 := by decide
    have HN := Lib.hid (show F.eatN k m = F.seed k by unfold Fld.eatN; omega)
    go_enter Try.func50, Try.ntmps50
    go_wp2_with fail
    go_still_tail 12, (by kernel_rfl)
    have M := Lib.hid M.out.drew
    go_wp2_with (first
      | ((with_reducible refine gate_store (x := .tmp 28) rfl ?_); go_must (refine M.out.ev_put i _ _ _ rfl rfl HL.out rfl (.int .i16 0) rfl SZ.out sz26 rfl rfl ?_); intro wn mm; have M := Lib.hid mm; clear mm)
      )
    go_ret
    have st := ST.out
    rw [HN.out, Int.sub_self] at st
    have mm := M.out
    rw [st] at mm
    exact ⟨ret_int HN.out.symm, by rw [Fld.eat, HN.out, Int.sub_self]; exact mm⟩
set_option maxRecDepth 100000 in
set_option maxHeartbeats 2000000 in
theorem l02Eat_any (F : Fld) (hF : F.ok) (k : Nat) (hk : k < 100) (m : Int) (hm : 0 ≤ m) (hs : 0 ≤ F.seed k) (w : World) :
    Calls Try.prog 71 #[.agg F.cells, .int .i64 k, .int .i64 m] w fun e w' => e = .returned (.tuple #[.agg (F.eat k m).cells, .int .i64 (F.eatN k m)]) ∧ Mem w w' [] := by
  have M := Lib.hid (Mem.start w)
  have i0 : (0 : Int) ≤ (k : Int) := by omega
  have i1 : (k : Int) < 100 := by omega
  have hsb := hF.sb k
  have e1 : IntKind.i64.wrap (F.seed k) = F.seed k := IntWalk.i64_in _ (by omega)
  have KC := Lib.hid (Fld.cellS hF.toLen hk)
  have S1 := Lib.hid (Fld.size hF.toLen)
  have SZ := Lib.hid (show 102 + k < F.cells.size by rw [Fld.size hF.toLen]; omega)
  have ST := Lib.hid (Fld.setSeed hF.toLen k (F.seed k - F.eatN k m))
  have S3 := Lib.hid (Fld.size (Fld.eat_ok hF k hm hs).toLen)
  have O1 := Lib.hid (Fld.one (F.eat k m))
  have HN := Lib.hid (show min m (F.seed k) = F.eatN k m from rfl)
  have hn : 0 ≤ F.eatN k m ∧ F.eatN k m ≤ F.seed k := by unfold Fld.eatN; omega
  obtain ⟨N, hN⟩ : ∃ N, N = F.eatN k m := ⟨_, rfl⟩
  have HEQ := Lib.hid (show F.eat k m = F.withSeed k (F.seed k - F.eatN k m) from rfl)
  rw [← hN] at HN hn ST HEQ
  rw [← hN]
  rw [HEQ.out] at S3 O1
  rw [HEQ.out]
  have e2 : IntKind.i16.wrap N = N := IntWalk.i16_in _ (by omega)
  have e3 : IntKind.i16.wrap (F.seed k - N) = F.seed k - N := IntWalk.i16_in _ (by omega)
  clear hN
  go_enter Try.func71, Try.ntmps71
  go_wp2_with (first
    | ((with_reducible refine gate_dst (N := 6) rfl ?_); go_must (refine M.out.ev_new rfl (by first | (go_simp; done) | (go_simp; rfl)) ?_); intro g6 w6 m; simp only [List.cons_append, List.nil_append] at m; have M := Lib.hid m; clear m; have c0 := M.out.cell 0 rfl KC.out)
    | (go_at_call 85; go_must (refine (l00Min_any _ _ _).mono ?_); rintro e w_ ⟨rfl, rfl⟩; rw [HN.out])
    | ((with_reducible refine gate_store (x := .tmp 24) rfl ?_); go_must (refine M.out.ev_put 0 _ _ _ rfl rfl rfl rfl (.int .i16 (F.seed k - N)) rfl SZ.out sz26 rfl rfl ?_); intro wn mm; simp only [List.set_cons_zero, ST.out] at mm; have M := Lib.hid mm; clear mm)
    | ((with_reducible refine gate_dst (N := 3) rfl ?_); go_must (refine M.out.ev_new rfl (by first | (go_simp; done) | (go_simp; rfl)) ?_); intro g3 w3 m; simp only [List.cons_append, List.nil_append] at m; have M := Lib.hid m; clear m)
    | ((with_reducible refine gate_dst (N := 6) rfl ?_); go_must (refine M.out.ev_new rfl (by first | (go_simp; done) | (go_simp; rfl)) ?_); intro g6 w6 m; simp only [List.cons_append, List.nil_append] at m; have M := Lib.hid m; clear m)
    | ((with_reducible refine gate_dst (N := 13) rfl ?_); go_must (refine M.out.ev_ld 0 _ _ rfl rfl rfl Try.underlying26 rfl rfl (by first | assumption | rfl) ?_))
    | ((with_reducible refine gate_dst (N := 19) rfl ?_); go_must (refine M.out.ev_ld 0 _ _ rfl rfl rfl Try.underlying26 rfl rfl (by first | assumption | rfl) ?_))
    | ((with_reducible refine gate_store (x := .tmp 24) rfl ?_); go_must (refine M.out.ev_put 0 _ _ _ rfl rfl rfl rfl (.int _ _) rfl (by first | assumption | exact Fld.lt0 _ | exact Fld.lt1 _ | (simp; done) | (simp only [ints_size]; omega)) sz26 rfl rfl ?_); intro wn m; simp only [List.set_cons_succ, List.set_cons_zero, List.setIfInBounds_toArray] at m; have M := Lib.hid m; clear m)
    | ((with_reducible refine gate_dst (N := 25) rfl ?_); go_must (refine M.out.ev_ldw 0 _ _ rfl rfl rfl Try.underlying29 rfl (by first | exact sz29 | (rw [S1.out]; exact sz29) | (rw [S2.out]; exact sz29) | (rw [S3.out]; exact sz29)) rfl ?_))
    | ((with_reducible refine gate_store (x := .tmp 6) rfl ?_); go_must (refine M.out.ev_stw 1 _ _ _ rfl rfl rfl rfl _ rfl (by first | rfl | (simp only [S1.out]; rfl) | (simp only [S1.out, S2.out]; rfl) | (simp only [S3.out]; rfl) | (simp only [S1.out, S2.out, S3.out]; rfl)) (by first | exact sz29 | (rw [S1.out]; exact sz29) | (rw [S2.out]; exact sz29) | (rw [S3.out]; exact sz29)) (by first | exact ints_one _ _ | exact Fld.one _ | exact O1.out | rfl | (simp [Value.oneCell']; done)) rfl ?_); intro wn m; simp only [List.set_cons_succ, List.set_cons_zero, List.setIfInBounds_toArray] at m; have M := Lib.hid m; clear m)
    )
  refine ret_ct rfl ((M.out.blk 1 rfl).var Try.underlying29 rfl (by rw [S3.out]; exact sz29)) ⟨rfl, M.out.take 0⟩
end Go.Proofs.Ytlonbgomdabmmaa
namespace Go.Proofs.Ytlonbgomdabmmaa
set_option linter.unusedSimpArgs false
set_option linter.unusedVariables false
open Go.RowKit
attribute [local go_sem] cell?_mk frozen?_mk

end Go.Proofs.Ytlonbgomdabmmaa
namespace Go.Proofs.Ytlonbgomdabmmaa
set_option linter.unusedSimpArgs false
set_option linter.unusedVariables false
open Go.RowKit
structure Visit where
  flock : Int
  cell : Int
  seeds : Int
  deriving DecidableEq
def Visit.vals (x : Visit) : List Value := [.int .i8 x.flock, .int .i16 x.cell, .int .i16 x.seeds]
theorem Visit.vl (x : Visit) : x.vals.length = 3 := rfl
theorem Visit.one (x : Visit) : x.vals.toArray.all (·.oneCell') = true := by simp [Visit.vals, Value.oneCell']
structure Visit.ok (x : Visit) : Prop where
  flock : -128 ≤ x.flock ∧ x.flock ≤ 127
  cell : -32768 ≤ x.cell ∧ x.cell ≤ 32767
  seeds : -32768 ≤ x.seeds ∧ x.seeds ≤ 32767
def Visit.z : Visit := ⟨0, 0, 0⟩
theorem elem_Visit : ElemOk Try.prog 35 51 (.agg Visit.z.vals.toArray) 3 6 := ⟨by kernel_rfl, by kernel_rfl, by kernel_rfl, by decide⟩
def Visit.ks : List IntKind := [.i8, .i16, .i16]
theorem Visit.of_conf (cs : List Value) (h : Conf Visit.ks cs) : ∃ x : Visit, x.ok ∧ x.vals = cs := by
  obtain ⟨e0, r, rfl, w0, h⟩ := h.cons
  obtain ⟨e1, r, rfl, w1, h⟩ := h.cons
  obtain ⟨e2, r, rfl, w2, h⟩ := h.cons
  obtain rfl := h.nil_eq
  exact ⟨⟨e0, e1, e2⟩, ⟨bounds_i8 w0, bounds_i16 w1, bounds_i16 w2⟩, rfl⟩
end Go.Proofs.Ytlonbgomdabmmaa
