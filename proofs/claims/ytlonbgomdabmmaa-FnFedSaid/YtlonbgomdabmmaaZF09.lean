/- Texts of a proof, laid together: Feed, Gen2, Held3. -/
import Derived.Test.YtlonbgomdabmmaaZF08
import Derived.Test.YtlonbgomdabmmaaZF01
import Derived.Test.YtlonbgomdabmmaaZF02
namespace Go.Proofs.Ytlonbgomdabmmaa
set_option linter.unusedSimpArgs false
set_option linter.unusedVariables false
open Go.RowKit
attribute [local go_sem] cell?_mk frozen?_mk

/-- At most so many visits: the field behind them, they, and what is still wanted. -/
def feedGo (fs : List Int) (x : Flock) (i : Nat) : Nat → Fld → Int → Fld × List Visit × Int
  | 0, F, l => (F, [], l)
  | m + 1, F, l =>
    if l ≤ 0 ∨ choiceOf F fs x < 0 then (F, [], l)
    else
      ((feedGo fs x i m (F.eat (choiceOf F fs x).toNat l) (l - F.eatN (choiceOf F fs x).toNat l)).1,
        ⟨i, choiceOf F fs x, F.eatN (choiceOf F fs x).toNat l⟩ :: (feedGo fs x i m (F.eat (choiceOf F fs x).toNat l) (l - F.eatN (choiceOf F fs x).toNat l)).2.1,
        (feedGo fs x i m (F.eat (choiceOf F fs x).toNat l) (l - F.eatN (choiceOf F fs x).toNat l)).2.2)
def feedOf (F : Fld) (fs : List Int) (x : Flock) (i : Nat) : Fld × List Visit × Int := feedGo fs x i 4 F x.hunger
/-- What has been done and what is still to be done make the whole. -/
def fits (fs : List Int) (x : Flock) (i : Nat) (R : Fld × List Visit × Int) (vs : List Visit) (m : Nat) (F : Fld) (l : Int) : Prop :=
  R = ((feedGo fs x i m F l).1, vs ++ (feedGo fs x i m F l).2.1, (feedGo fs x i m F l).2.2)
theorem fits_start (F : Fld) (fs : List Int) (x : Flock) (i : Nat) : fits fs x i (feedOf F fs x i) [] 4 F x.hunger := rfl
theorem fits_step {fs : List Int} {x : Flock} {i : Nat} {R : Fld × List Visit × Int} {vs : List Visit} {m : Nat} {F : Fld} {l : Int} (h : fits fs x i R vs (m + 1) F l) (hl : 0 < l) {k : Nat} (hk : choiceOf F fs x = k) :
    fits fs x i R (vs ++ [⟨i, k, F.eatN k l⟩]) m (F.eat k l) (l - F.eatN k l) := by
  unfold fits at *
  rw [h, feedGo, if_neg (by omega), hk, Int.toNat_natCast]
  simp
theorem fits_end {fs : List Int} {x : Flock} {i : Nat} {R : Fld × List Visit × Int} {vs : List Visit} {m : Nat} {F : Fld} {l : Int} (h : fits fs x i R vs m F l) (he : m = 0 ∨ l ≤ 0 ∨ choiceOf F fs x < 0) : R = (F, vs, l) := by
  unfold fits at h
  have : feedGo fs x i m F l = (F, [], l) := by
    cases m with
    | zero => rfl
    | succ m => rw [feedGo, if_pos (by omega)]
  rw [h, this]
  simp
theorem feedGo_ok (fs : List Int) (x : Flock) (i : Nat) : ∀ (m : Nat) (F : Fld) (l : Int), F.ok → 0 ≤ l → (feedGo fs x i m F l).1.ok ∧ 0 ≤ (feedGo fs x i m F l).2.2 ∧ (feedGo fs x i m F l).2.2 ≤ l ∧ (feedGo fs x i m F l).2.1.length ≤ m
  | 0, F, l, hF, hl => ⟨hF, hl, Int.le_refl _, Nat.le_refl _⟩
  | m + 1, F, l, hF, hl => by
    rw [feedGo]
    split
    · exact ⟨hF, hl, Int.le_refl _, by simp⟩
    · rename_i h
      rcases choice_of F fs x with hc | ⟨k, k0, kp, hc⟩
      · omega
      · rw [hc, Int.toNat_natCast]
        have hs := goP_seed kp
        have hn : 0 ≤ F.eatN k l ∧ F.eatN k l ≤ l := by unfold Fld.eatN; omega
        have ih := feedGo_ok fs x i m (F.eat k l) (l - F.eatN k l) (Fld.eat_ok hF k hl (by omega)) (by omega)
        exact ⟨ih.1, ih.2.1, by show (feedGo fs x i m _ _).2.2 ≤ l; omega, by show ((_ :: _ : List Visit)).length ≤ m + 1; rw [List.length_cons]; omega⟩
theorem feedOf_ok {F : Fld} (hF : F.ok) (fs : List Int) {x : Flock} (hp : x.plain = true) (i : Nat) : (feedOf F fs x i).1.ok ∧ 0 ≤ (feedOf F fs x i).2.2 ∧ (feedOf F fs x i).2.2 ≤ 4000 ∧ (feedOf F fs x i).2.1.length ≤ 4 := by
  have h := hunger_small hp
  have := feedGo_ok fs x i 4 F x.hunger hF h.1
  exact ⟨this.1, this.2.1, by unfold feedOf; omega, this.2.2.2⟩
set_option maxRecDepth 100000 in
set_option maxHeartbeats 4000000 in
theorem feed_any {w0 w : World} {E1 E2 E3 E4 : Ent} (g fb p off : Nat) {tf tb : TypeId} (F : Fld) (hF : F.ok) (fs : List Int) (hfl : fs.length = 100) (hff : ∀ x ∈ fs, -32768 ≤ x ∧ x ≤ 32767) (x : Flock) (hp : x.plain = true) (i : Nat) (hi : i < 100) (M0 : Mem w0 w [.blk g tf F.cells, .blk fb tb (ints .i16 fs), E1, E2, E3, E4]) (hx : w0.rangeAt p off x.vals) :
    Calls Try.prog 63 #[.pointer (some ⟨g, 0, none⟩), .pointer (some ⟨fb, 0, none⟩), .pointer (some ⟨p, off, none⟩), .int .i64 i] w fun e w' => ∃ A c, e = .returned (.tuple #[.slice A (feedOf F fs x i).2.1.length c, .int .i64 (feedOf F fs x i).2.2]) ∧ (feedOf F fs x i).2.1.length ≤ c ∧ Mem w0 w' [.blk g tf (feedOf F fs x i).1.cells, .blk fb tb (ints .i16 fs), E1, E2, E3, E4, .row (.slice A (feedOf F fs x i).2.1.length c) 51 3 (feedOf F fs x i).2.1.length (flat Visit.vals (feedOf F fs x i).2.1)] := by
  have M := Lib.hid M0
  have HX := Lib.hid hx
  have HFF := Lib.hid hff
  have HF := Lib.hid hF
  clear M0 hx hff hF
  have i8 : IntKind.i8.wrap (i : Int) = i := IntWalk.i8_in _ (by omega)
  have hh := hunger_small hp
  obtain ⟨R, hR⟩ : ∃ R, R = feedOf F fs x i := ⟨_, rfl⟩
  have FS := Lib.hid (fits_start F fs x i)
  rw [← hR] at FS ⊢
  clear hR
  go_enter Try.func63, Try.ntmps63
  go_wp2_with (first
    | ((with_reducible refine gate_dst (N := 14) rfl ?_); go_must (refine M.out.ev_bs0 elem_Visit rfl rfl ?_); intro gv wv m; simp only [List.cons_append, List.nil_append] at m; have M := Lib.hid m; clear m)
    | (go_at_call 44; go_must (refine (hunger_any p off x hp _ (M.out.argrange HX.out)).mono ?_); rintro e w_ ⟨rfl, N_⟩; have m := M.out.join N_; clear N_; simp only [List.cons_append, List.nil_append, List.append_nil] at m; have M := Lib.hid m; clear m)
    )
  go_loopw [10, 11] (fun s l wr => ∃ (vs : List Visit) (m : Nat) (F1 : Fld) (l1 : Int), l = .int .i64 l1 ∧ vs.length + m = 4 ∧ fits fs x i R vs m F1 l1 ∧ F1.ok ∧ 0 ≤ l1 ∧ l1 ≤ 4000 ∧ Mem w0 wr [.blk g tf F1.cells, .blk fb tb (ints .i16 fs), E1, E2, E3, E4, .row s 51 3 vs.length (flat Visit.vals vs)])
    (fun _ l _ => (intOf l).toNat)
  case atStart => exact ⟨[], 4, F, x.hunger, rfl, rfl, FS.out, HF.out, hh.1, hh.2, M.out⟩
  case round =>
    clear M FS
    obtain ⟨vs, m, F1, l1, rfl, hvm, hfit, hF1, l0, l4, mm⟩ := hrel
    have M := Lib.hid mm
    have HFIT := Lib.hid hfit
    have HF1 := Lib.hid hF1
    have S1 := Lib.hid (Fld.size hF1.toLen)
    obtain ⟨A, c, rfl, hcA, _⟩ := M.out.row_slice 6 rfl
    clear mm hfit hF1
    by_cases hl : l1 ≤ 0
    · obtain rfl : l1 = 0 := by omega
      have hR := fits_end HFIT.out (.inr (.inl (Int.le_refl _)))
      have HR := Lib.hid hR
      clear hR
      go_wp2
      go_ret2
      rw [HR.out]
      exact ⟨_, _, rfl, hcA, M.out.take 7⟩
    · have hl0 : 0 < l1 := by omega
      cases m with
      | zero =>
        have hv4 : vs.length = 4 := by omega
        have hv4i : ((vs.length : Int) < 4) = False := by simp; omega
        have HR := Lib.hid (fits_end HFIT.out (.inl rfl))
        have HV4 := Lib.hid hv4
        clear hv4
        go_wp2
        go_ret2
        rw [HR.out]
        exact ⟨_, _, rfl, hcA, M.out.take 7⟩
      | succ m =>
        have hv4i : ((vs.length : Int) < 4) = True := by simp; omega
        have CH := Lib.hid (fun w hb hfb hr => choice_any g fb p off F1 HF1.out fs hfl HFF.out x hp w hb hfb hr (t := tf) (tf := tb))
        have hco := choice_of F1 fs x
        obtain ⟨C, hC⟩ : ∃ C, C = choiceOf F1 fs x := ⟨_, rfl⟩
        rw [← hC] at CH hco
        have HC := Lib.hid hC
        clear hC
        rcases hco with rfl | ⟨k, k0, kp, rfl⟩
        · have HR := Lib.hid (fits_end HFIT.out (.inr (.inr (by rw [← HC.out]; decide))))
          go_wp2_with (first
            | (go_at_call 49; go_must (refine (CH.out _ (M.out.blk 0 rfl) (M.out.blk 1 rfl) (M.out.argrange HX.out)).mono ?_); rintro e w_ ⟨rfl, N_⟩; have m := M.out.join N_; clear N_; simp only [List.cons_append, List.nil_append, List.append_nil] at m; have M := Lib.hid m; clear m)
            )
          go_ret2
          rw [HR.out]
          exact ⟨_, _, rfl, hcA, M.out.take 7⟩
        · have z0 : ¬ ((k : Int) < 0) := by omega
          have i16k : IntKind.i16.wrap (k : Int) = k := IntWalk.i16_in _ (by omega)
          have hsd := goP_seed kp
          have hsb := HF1.out.sb k
          have hn : 0 ≤ F1.eatN k l1 ∧ F1.eatN k l1 ≤ F1.seed k ∧ F1.eatN k l1 ≤ l1 ∧ 0 < F1.eatN k l1 := by unfold Fld.eatN; omega
          have hok := Fld.eat_ok HF1.out k l0 (by omega : 0 ≤ F1.seed k)
          have HST := Lib.hid (fits_step HFIT.out hl0 HC.out.symm)
          have TK := Lib.hid (fun (wa wb : World) (L : List Ent) (j : Nat) (M0 : Mem wa wb L) (g : Nat) (hL : L[j]? = some (.blk g tf F1.cells)) => take_any j M0 g F1 HF1.out hL k k0 l1 l0 (by omega))
          obtain ⟨N, hN⟩ : ∃ N, N = F1.eatN k l1 := ⟨_, rfl⟩
          obtain ⟨G, hG⟩ : ∃ G, G = F1.eat k l1 := ⟨_, rfl⟩
          rw [← hN] at TK HST hn
          rw [← hG] at TK HST hok
          have HOK := Lib.hid hok
          have S3 := Lib.hid (Fld.size hok.toLen)
          have O2 := Lib.hid (Fld.one G)
          have V2 := Lib.hid (Visit.one ⟨i, k, N⟩)
          have i16n : IntKind.i16.wrap N = N := IntWalk.i16_in _ (by omega)
          have e64 : IntKind.i64.wrap (l1 - N) = l1 - N := IntWalk.i64_in _ (by omega)
          have hgl : (0 < l1) = True := by simp; omega
          clear hN hG hok hsd hsb kp
          go_wp2_with (first
            | (go_at_call 49; go_must (refine (CH.out _ (M.out.blk 0 rfl) (M.out.blk 1 rfl) (M.out.argrange HX.out)).mono ?_); rintro e w_ ⟨rfl, N_⟩; have m := M.out.join N_; clear N_; simp only [List.cons_append, List.nil_append, List.append_nil] at m; have M := Lib.hid m; clear m)
            | (go_at_call 50; go_must (refine (TK.out _ _ _ 0 M.out _ rfl).mono ?_); rintro e w_ ⟨rfl, m⟩; simp only [List.set_cons_zero] at m; have M := Lib.hid m; clear m)
            | ((with_reducible refine gate_dst (N := 42) rfl ?_); go_must (refine M.out.ev_bs1 elem_Visit rfl _ rfl (Visit.vals ⟨i, k, N⟩).toArray rfl rfl (by decide) ?_); intro g42 w42 m; simp only [List.cons_append, List.nil_append] at m; have M := Lib.hid m; clear m)
            | ((with_reducible refine gate_dst (N := 43) rfl ?_); go_must (refine M.out.ev_append1 6 7 elem_Visit rfl _ _ rfl rfl rfl rfl rfl rfl (Visit.one _) (by omega) (by decide) ?_); intro v43 w43 m; simp only [List.set_cons_succ, List.set_cons_zero] at m; have M := Lib.hid m; clear m)
            )
          refine ⟨⟨vs ++ [⟨i, k, N⟩], m, G, l1 - N, rfl, by simp; omega, HST.out, HOK.out, by omega, by omega, ?_⟩, by simp [intOf]; omega⟩
          have mm := M.out.take 7
          rw [flat_snoc, List.length_append]
          exact mm
set_option maxRecDepth 100000 in
set_option maxHeartbeats 4000000 in
theorem l02Feed_any (fb p off : Nat) {tb : TypeId} (F : Fld) (hF : F.ok) (fs : List Int) (hfl : fs.length = 100) (hff : ∀ x ∈ fs, -32768 ≤ x ∧ x ≤ 32767) (x : Flock) (hp : x.plain = true) (i : Nat) (hi : i < 100) (w : World) (hfb : Blk w fb tb (ints .i16 fs)) (hx : w.rangeAt p off x.vals) :
    Calls Try.prog 48 #[.agg F.cells, .pointer (some ⟨fb, 0, none⟩), .pointer (some ⟨p, off, none⟩), .int .i64 i] w fun e w' => ∃ A c, e = .returned (.tuple #[.agg (feedOf F fs x i).1.cells, .slice A (feedOf F fs x i).2.1.length c]) ∧ (feedOf F fs x i).2.1.length ≤ c ∧ Mem w w' [.row (.slice A (feedOf F fs x i).2.1.length c) 51 3 (feedOf F fs x i).2.1.length (flat Visit.vals (feedOf F fs x i).2.1)] := by
  have M := Lib.hid (Mem.start w)
  have HX := Lib.hid hx
  have HFF := Lib.hid hff
  have HF := Lib.hid hF
  have HFB := Lib.hid hfb
  have S1 := Lib.hid (Fld.size hF.toLen)
  have S2 := Lib.hid (Fld.size Fld.z_len)
  clear hx hff hF hfb
  have i8 : IntKind.i8.wrap (i : Int) = i := IntWalk.i8_in _ (by omega)
  have hh := hunger_small hp
  obtain ⟨R, hR⟩ : ∃ R, R = feedOf F fs x i := ⟨_, rfl⟩
  have FS := Lib.hid (fits_start F fs x i)
  rw [← hR] at FS ⊢
  clear hR
  go_enter Try.func48, Try.ntmps48
  go_wp2_with (first
    | ((with_reducible refine gate_dst (N := 8) rfl ?_); go_must (refine M.out.ev_new rfl (by first | (go_simp; done) | (go_simp; rfl)) ?_); intro g8 w8 m; simp only [List.cons_append, List.nil_append, zeroFld] at m; have M := Lib.hid m; clear m)
    | ((with_reducible refine gate_dst (N := 15) rfl ?_); go_must (refine M.out.ev_bs0 elem_Visit rfl rfl ?_); intro gv wv m; simp only [List.cons_append, List.nil_append] at m; have M := Lib.hid m; clear m)
    | (go_at_call 69; go_must (refine (l02Hunger_any p off x hp _ (M.out.argrange HX.out)).mono ?_); rintro e w_ ⟨rfl, N_⟩; have m := M.out.join N_; clear N_; simp only [List.cons_append, List.nil_append, List.append_nil] at m; have M := Lib.hid m; clear m)
    | ((with_reducible refine gate_dst (N := 4) rfl ?_); go_must (refine M.out.ev_new rfl (by first | (go_simp; done) | (go_simp; rfl)) ?_); intro g4 w4 m; simp only [List.cons_append, List.nil_append] at m; have M := Lib.hid m; clear m)
    | ((with_reducible refine gate_dst (N := 8) rfl ?_); go_must (refine M.out.ev_new rfl (by first | (go_simp; done) | (go_simp; rfl)) ?_); intro g8 w8 m; simp only [List.cons_append, List.nil_append] at m; have M := Lib.hid m; clear m)
    | ((with_reducible refine gate_dst (N := 31) rfl ?_); go_must (refine M.out.ev_ldw 0 _ _ rfl rfl rfl Try.underlying29 rfl (by first | exact sz29 | (rw [S1.out]; exact sz29) | (rw [S2.out]; exact sz29) | (rw [S3.out]; exact sz29)) rfl ?_))
    | ((with_reducible refine gate_dst (N := 13) rfl ?_); go_must (refine M.out.ev_new rfl (by first | (go_simp; done) | (go_simp; rfl)) ?_); intro g13 w13 m; simp only [List.cons_append, List.nil_append] at m; have M := Lib.hid m; clear m)
    | ((with_reducible refine gate_store (x := .tmp 13) rfl ?_); go_must (refine M.out.ev_stw 2 _ _ _ rfl rfl rfl rfl _ rfl (by first | rfl | (simp only [S1.out]; rfl) | (simp only [S1.out, S2.out]; rfl) | (simp only [S3.out]; rfl) | (simp only [S1.out, S2.out, S3.out]; rfl)) (by first | exact sz29 | (rw [S1.out]; exact sz29) | (rw [S2.out]; exact sz29) | (rw [S3.out]; exact sz29)) (by first | exact ints_one _ _ | exact Fld.one _ | exact O1.out | rfl | (simp [Value.oneCell']; done)) rfl ?_); intro wn m; simp only [List.set_cons_succ, List.set_cons_zero, List.setIfInBounds_toArray] at m; have M := Lib.hid m; clear m)
    | ((with_reducible refine gate_dst (N := 37) rfl ?_); go_must (refine M.out.ev_ldw 2 _ _ rfl rfl rfl Try.underlying29 rfl (by first | exact sz29 | (rw [S1.out]; exact sz29) | (rw [S2.out]; exact sz29) | (rw [S3.out]; exact sz29)) rfl ?_))
    | ((with_reducible refine gate_store (x := .tmp 4) rfl ?_); go_must (refine M.out.ev_stw 0 _ _ _ rfl rfl rfl rfl _ rfl (by first | rfl | (simp only [S1.out]; rfl) | (simp only [S1.out, S2.out]; rfl) | (simp only [S3.out]; rfl) | (simp only [S1.out, S2.out, S3.out]; rfl)) (by first | exact sz29 | (rw [S1.out]; exact sz29) | (rw [S2.out]; exact sz29) | (rw [S3.out]; exact sz29)) (by first | exact ints_one _ _ | exact Fld.one _ | exact O1.out | rfl | (simp [Value.oneCell']; done)) rfl ?_); intro wn m; simp only [List.set_cons_succ, List.set_cons_zero, List.setIfInBounds_toArray] at m; have M := Lib.hid m; clear m)
    | ((with_reducible refine gate_dst (N := 51) rfl ?_); go_must (refine M.out.ev_ldw 0 _ _ rfl rfl rfl Try.underlying29 rfl (by first | exact sz29 | (rw [S1.out]; exact sz29) | (rw [S2.out]; exact sz29) | (rw [S3.out]; exact sz29)) rfl ?_))
    | ((with_reducible refine gate_store (x := .tmp 8) rfl ?_); go_must (refine M.out.ev_stw 1 _ _ _ rfl rfl rfl rfl _ rfl (by first | rfl | (simp only [S1.out]; rfl) | (simp only [S1.out, S2.out]; rfl) | (simp only [S3.out]; rfl) | (simp only [S1.out, S2.out, S3.out]; rfl)) (by first | exact sz29 | (rw [S1.out]; exact sz29) | (rw [S2.out]; exact sz29) | (rw [S3.out]; exact sz29)) (by first | exact ints_one _ _ | exact Fld.one _ | exact O1.out | rfl | (simp [Value.oneCell']; done)) rfl ?_); intro wn m; simp only [List.set_cons_succ, List.set_cons_zero, List.setIfInBounds_toArray] at m; have M := Lib.hid m; clear m)
    )
  go_loopw [10, 11] (fun s l wr => ∃ (vs : List Visit) (m : Nat) (F1 : Fld) (l1 : Int), l = .int .i64 l1 ∧ vs.length + m = 4 ∧ fits fs x i R vs m F1 l1 ∧ F1.ok ∧ 0 ≤ l1 ∧ l1 ≤ 4000 ∧ Mem w wr [.blk g4 29 F1.cells, .blk g8 29 Fld.z.cells, .row s 51 3 vs.length (flat Visit.vals vs)])
    (fun _ l _ => (intOf l).toNat)
  case atStart => exact ⟨[], 4, F, x.hunger, rfl, rfl, FS.out, HF.out, hh.1, hh.2, M.out⟩
  case round =>
    clear M FS
    obtain ⟨vs, m, F1, l1, rfl, hvm, hfit, hF1, l0, l4, mm⟩ := hrel
    have M := Lib.hid mm
    have HFIT := Lib.hid hfit
    have HF1 := Lib.hid hF1
    have S1 := Lib.hid (Fld.size hF1.toLen)
    obtain ⟨A, c, rfl, hcA, _⟩ := M.out.row_slice 2 rfl
    clear mm hfit hF1
    by_cases hl : l1 ≤ 0
    · obtain rfl : l1 = 0 := by omega
      have hR := fits_end HFIT.out (.inr (.inl (Int.le_refl _)))
      have HR := Lib.hid hR
      clear hR
      go_wp2_with (first
        | ((with_reducible refine gate_dst (N := 4) rfl ?_); go_must (refine M.out.ev_new rfl (by first | (go_simp; done) | (go_simp; rfl)) ?_); intro g4 w4 m; simp only [List.cons_append, List.nil_append] at m; have M := Lib.hid m; clear m)
        | ((with_reducible refine gate_dst (N := 8) rfl ?_); go_must (refine M.out.ev_new rfl (by first | (go_simp; done) | (go_simp; rfl)) ?_); intro g8 w8 m; simp only [List.cons_append, List.nil_append] at m; have M := Lib.hid m; clear m)
        | ((with_reducible refine gate_dst (N := 31) rfl ?_); go_must (refine M.out.ev_ldw 0 _ _ rfl rfl rfl Try.underlying29 rfl (by first | exact sz29 | (rw [S1.out]; exact sz29) | (rw [S2.out]; exact sz29) | (rw [S3.out]; exact sz29)) rfl ?_))
        | ((with_reducible refine gate_dst (N := 13) rfl ?_); go_must (refine M.out.ev_new rfl (by first | (go_simp; done) | (go_simp; rfl)) ?_); intro g13 w13 m; simp only [List.cons_append, List.nil_append] at m; have M := Lib.hid m; clear m)
        | ((with_reducible refine gate_store (x := .tmp 13) rfl ?_); go_must (refine M.out.ev_stw 2 _ _ _ rfl rfl rfl rfl _ rfl (by first | rfl | (simp only [S1.out]; rfl) | (simp only [S1.out, S2.out]; rfl) | (simp only [S3.out]; rfl) | (simp only [S1.out, S2.out, S3.out]; rfl)) (by first | exact sz29 | (rw [S1.out]; exact sz29) | (rw [S2.out]; exact sz29) | (rw [S3.out]; exact sz29)) (by first | exact ints_one _ _ | exact Fld.one _ | exact O1.out | rfl | (simp [Value.oneCell']; done)) rfl ?_); intro wn m; simp only [List.set_cons_succ, List.set_cons_zero, List.setIfInBounds_toArray] at m; have M := Lib.hid m; clear m)
        | ((with_reducible refine gate_dst (N := 37) rfl ?_); go_must (refine M.out.ev_ldw 2 _ _ rfl rfl rfl Try.underlying29 rfl (by first | exact sz29 | (rw [S1.out]; exact sz29) | (rw [S2.out]; exact sz29) | (rw [S3.out]; exact sz29)) rfl ?_))
        | ((with_reducible refine gate_store (x := .tmp 4) rfl ?_); go_must (refine M.out.ev_stw 0 _ _ _ rfl rfl rfl rfl _ rfl (by first | rfl | (simp only [S1.out]; rfl) | (simp only [S1.out, S2.out]; rfl) | (simp only [S3.out]; rfl) | (simp only [S1.out, S2.out, S3.out]; rfl)) (by first | exact sz29 | (rw [S1.out]; exact sz29) | (rw [S2.out]; exact sz29) | (rw [S3.out]; exact sz29)) (by first | exact ints_one _ _ | exact Fld.one _ | exact O1.out | rfl | (simp [Value.oneCell']; done)) rfl ?_); intro wn m; simp only [List.set_cons_succ, List.set_cons_zero, List.setIfInBounds_toArray] at m; have M := Lib.hid m; clear m)
        | ((with_reducible refine gate_dst (N := 51) rfl ?_); go_must (refine M.out.ev_ldw 0 _ _ rfl rfl rfl Try.underlying29 rfl (by first | exact sz29 | (rw [S1.out]; exact sz29) | (rw [S2.out]; exact sz29) | (rw [S3.out]; exact sz29)) rfl ?_))
        | ((with_reducible refine gate_store (x := .tmp 8) rfl ?_); go_must (refine M.out.ev_stw 1 _ _ _ rfl rfl rfl rfl _ rfl (by first | rfl | (simp only [S1.out]; rfl) | (simp only [S1.out, S2.out]; rfl) | (simp only [S3.out]; rfl) | (simp only [S1.out, S2.out, S3.out]; rfl)) (by first | exact sz29 | (rw [S1.out]; exact sz29) | (rw [S2.out]; exact sz29) | (rw [S3.out]; exact sz29)) (by first | exact ints_one _ _ | exact Fld.one _ | exact O1.out | rfl | (simp [Value.oneCell']; done)) rfl ?_); intro wn m; simp only [List.set_cons_succ, List.set_cons_zero, List.setIfInBounds_toArray] at m; have M := Lib.hid m; clear m)
        )
      rw [HR.out]
      exact ret_ct rfl ((M.out.blk 1 rfl).var Try.underlying29 rfl (by rw [S1.out]; exact sz29)) ⟨_, _, rfl, hcA, M.out.only [2] (K := [_]) rfl (by decide)⟩
    · have hl0 : 0 < l1 := by omega
      cases m with
      | zero =>
        have hv4 : vs.length = 4 := by omega
        have hv4i : ((vs.length : Int) < 4) = False := by simp; omega
        have HR := Lib.hid (fits_end HFIT.out (.inl rfl))
        have HV4 := Lib.hid hv4
        clear hv4
        go_wp2_with (first
          | ((with_reducible refine gate_dst (N := 4) rfl ?_); go_must (refine M.out.ev_new rfl (by first | (go_simp; done) | (go_simp; rfl)) ?_); intro g4 w4 m; simp only [List.cons_append, List.nil_append] at m; have M := Lib.hid m; clear m)
          | ((with_reducible refine gate_dst (N := 8) rfl ?_); go_must (refine M.out.ev_new rfl (by first | (go_simp; done) | (go_simp; rfl)) ?_); intro g8 w8 m; simp only [List.cons_append, List.nil_append] at m; have M := Lib.hid m; clear m)
          | ((with_reducible refine gate_dst (N := 31) rfl ?_); go_must (refine M.out.ev_ldw 0 _ _ rfl rfl rfl Try.underlying29 rfl (by first | exact sz29 | (rw [S1.out]; exact sz29) | (rw [S2.out]; exact sz29) | (rw [S3.out]; exact sz29)) rfl ?_))
          | ((with_reducible refine gate_dst (N := 13) rfl ?_); go_must (refine M.out.ev_new rfl (by first | (go_simp; done) | (go_simp; rfl)) ?_); intro g13 w13 m; simp only [List.cons_append, List.nil_append] at m; have M := Lib.hid m; clear m)
          | ((with_reducible refine gate_store (x := .tmp 13) rfl ?_); go_must (refine M.out.ev_stw 2 _ _ _ rfl rfl rfl rfl _ rfl (by first | rfl | (simp only [S1.out]; rfl) | (simp only [S1.out, S2.out]; rfl) | (simp only [S3.out]; rfl) | (simp only [S1.out, S2.out, S3.out]; rfl)) (by first | exact sz29 | (rw [S1.out]; exact sz29) | (rw [S2.out]; exact sz29) | (rw [S3.out]; exact sz29)) (by first | exact ints_one _ _ | exact Fld.one _ | exact O1.out | rfl | (simp [Value.oneCell']; done)) rfl ?_); intro wn m; simp only [List.set_cons_succ, List.set_cons_zero, List.setIfInBounds_toArray] at m; have M := Lib.hid m; clear m)
          | ((with_reducible refine gate_dst (N := 37) rfl ?_); go_must (refine M.out.ev_ldw 2 _ _ rfl rfl rfl Try.underlying29 rfl (by first | exact sz29 | (rw [S1.out]; exact sz29) | (rw [S2.out]; exact sz29) | (rw [S3.out]; exact sz29)) rfl ?_))
          | ((with_reducible refine gate_store (x := .tmp 4) rfl ?_); go_must (refine M.out.ev_stw 0 _ _ _ rfl rfl rfl rfl _ rfl (by first | rfl | (simp only [S1.out]; rfl) | (simp only [S1.out, S2.out]; rfl) | (simp only [S3.out]; rfl) | (simp only [S1.out, S2.out, S3.out]; rfl)) (by first | exact sz29 | (rw [S1.out]; exact sz29) | (rw [S2.out]; exact sz29) | (rw [S3.out]; exact sz29)) (by first | exact ints_one _ _ | exact Fld.one _ | exact O1.out | rfl | (simp [Value.oneCell']; done)) rfl ?_); intro wn m; simp only [List.set_cons_succ, List.set_cons_zero, List.setIfInBounds_toArray] at m; have M := Lib.hid m; clear m)
          | ((with_reducible refine gate_dst (N := 51) rfl ?_); go_must (refine M.out.ev_ldw 0 _ _ rfl rfl rfl Try.underlying29 rfl (by first | exact sz29 | (rw [S1.out]; exact sz29) | (rw [S2.out]; exact sz29) | (rw [S3.out]; exact sz29)) rfl ?_))
          | ((with_reducible refine gate_store (x := .tmp 8) rfl ?_); go_must (refine M.out.ev_stw 1 _ _ _ rfl rfl rfl rfl _ rfl (by first | rfl | (simp only [S1.out]; rfl) | (simp only [S1.out, S2.out]; rfl) | (simp only [S3.out]; rfl) | (simp only [S1.out, S2.out, S3.out]; rfl)) (by first | exact sz29 | (rw [S1.out]; exact sz29) | (rw [S2.out]; exact sz29) | (rw [S3.out]; exact sz29)) (by first | exact ints_one _ _ | exact Fld.one _ | exact O1.out | rfl | (simp [Value.oneCell']; done)) rfl ?_); intro wn m; simp only [List.set_cons_succ, List.set_cons_zero, List.setIfInBounds_toArray] at m; have M := Lib.hid m; clear m)
          )
        rw [HR.out]
        exact ret_ct rfl ((M.out.blk 1 rfl).var Try.underlying29 rfl (by rw [S1.out]; exact sz29)) ⟨_, _, rfl, hcA, M.out.only [2] (K := [_]) rfl (by decide)⟩
      | succ m =>
        have hv4i : ((vs.length : Int) < 4) = True := by simp; omega
        have CH := Lib.hid (fun w hb hfb hr => l02Choice_any g4 fb p off F1 HF1.out fs hfl HFF.out x hp w hb hfb hr (t := 29) (tf := tb))
        have hco := choice_of F1 fs x
        obtain ⟨C, hC⟩ : ∃ C, C = choiceOf F1 fs x := ⟨_, rfl⟩
        rw [← hC] at CH hco
        have HC := Lib.hid hC
        clear hC
        rcases hco with rfl | ⟨k, k0, kp, rfl⟩
        · have HR := Lib.hid (fits_end HFIT.out (.inr (.inr (by rw [← HC.out]; decide))))
          go_wp2_with (first
            | (go_at_call 70; go_must (refine (CH.out _ (M.out.blk 0 rfl) (M.out.arg HFB.out) (M.out.argrange HX.out)).mono ?_); rintro e w_ ⟨rfl, N_⟩; have m := M.out.join N_; clear N_; simp only [List.cons_append, List.nil_append, List.append_nil] at m; have M := Lib.hid m; clear m)
            | ((with_reducible refine gate_dst (N := 4) rfl ?_); go_must (refine M.out.ev_new rfl (by first | (go_simp; done) | (go_simp; rfl)) ?_); intro g4 w4 m; simp only [List.cons_append, List.nil_append] at m; have M := Lib.hid m; clear m)
            | ((with_reducible refine gate_dst (N := 8) rfl ?_); go_must (refine M.out.ev_new rfl (by first | (go_simp; done) | (go_simp; rfl)) ?_); intro g8 w8 m; simp only [List.cons_append, List.nil_append] at m; have M := Lib.hid m; clear m)
            | ((with_reducible refine gate_dst (N := 31) rfl ?_); go_must (refine M.out.ev_ldw 0 _ _ rfl rfl rfl Try.underlying29 rfl (by first | exact sz29 | (rw [S1.out]; exact sz29) | (rw [S2.out]; exact sz29) | (rw [S3.out]; exact sz29)) rfl ?_))
            | ((with_reducible refine gate_dst (N := 13) rfl ?_); go_must (refine M.out.ev_new rfl (by first | (go_simp; done) | (go_simp; rfl)) ?_); intro g13 w13 m; simp only [List.cons_append, List.nil_append] at m; have M := Lib.hid m; clear m)
            | ((with_reducible refine gate_store (x := .tmp 13) rfl ?_); go_must (refine M.out.ev_stw 2 _ _ _ rfl rfl rfl rfl _ rfl (by first | rfl | (simp only [S1.out]; rfl) | (simp only [S1.out, S2.out]; rfl) | (simp only [S3.out]; rfl) | (simp only [S1.out, S2.out, S3.out]; rfl)) (by first | exact sz29 | (rw [S1.out]; exact sz29) | (rw [S2.out]; exact sz29) | (rw [S3.out]; exact sz29)) (by first | exact ints_one _ _ | exact Fld.one _ | exact O1.out | rfl | (simp [Value.oneCell']; done)) rfl ?_); intro wn m; simp only [List.set_cons_succ, List.set_cons_zero, List.setIfInBounds_toArray] at m; have M := Lib.hid m; clear m)
            | ((with_reducible refine gate_dst (N := 37) rfl ?_); go_must (refine M.out.ev_ldw 2 _ _ rfl rfl rfl Try.underlying29 rfl (by first | exact sz29 | (rw [S1.out]; exact sz29) | (rw [S2.out]; exact sz29) | (rw [S3.out]; exact sz29)) rfl ?_))
            | ((with_reducible refine gate_store (x := .tmp 4) rfl ?_); go_must (refine M.out.ev_stw 0 _ _ _ rfl rfl rfl rfl _ rfl (by first | rfl | (simp only [S1.out]; rfl) | (simp only [S1.out, S2.out]; rfl) | (simp only [S3.out]; rfl) | (simp only [S1.out, S2.out, S3.out]; rfl)) (by first | exact sz29 | (rw [S1.out]; exact sz29) | (rw [S2.out]; exact sz29) | (rw [S3.out]; exact sz29)) (by first | exact ints_one _ _ | exact Fld.one _ | exact O1.out | rfl | (simp [Value.oneCell']; done)) rfl ?_); intro wn m; simp only [List.set_cons_succ, List.set_cons_zero, List.setIfInBounds_toArray] at m; have M := Lib.hid m; clear m)
            | ((with_reducible refine gate_dst (N := 51) rfl ?_); go_must (refine M.out.ev_ldw 0 _ _ rfl rfl rfl Try.underlying29 rfl (by first | exact sz29 | (rw [S1.out]; exact sz29) | (rw [S2.out]; exact sz29) | (rw [S3.out]; exact sz29)) rfl ?_))
            | ((with_reducible refine gate_store (x := .tmp 8) rfl ?_); go_must (refine M.out.ev_stw 1 _ _ _ rfl rfl rfl rfl _ rfl (by first | rfl | (simp only [S1.out]; rfl) | (simp only [S1.out, S2.out]; rfl) | (simp only [S3.out]; rfl) | (simp only [S1.out, S2.out, S3.out]; rfl)) (by first | exact sz29 | (rw [S1.out]; exact sz29) | (rw [S2.out]; exact sz29) | (rw [S3.out]; exact sz29)) (by first | exact ints_one _ _ | exact Fld.one _ | exact O1.out | rfl | (simp [Value.oneCell']; done)) rfl ?_); intro wn m; simp only [List.set_cons_succ, List.set_cons_zero, List.setIfInBounds_toArray] at m; have M := Lib.hid m; clear m)
            )
          rw [HR.out]
          exact ret_ct rfl ((M.out.blk 1 rfl).var Try.underlying29 rfl (by rw [S1.out]; exact sz29)) ⟨_, _, rfl, hcA, M.out.only [2] (K := [_]) rfl (by decide)⟩
        · have z0 : ¬ ((k : Int) < 0) := by omega
          have i16k : IntKind.i16.wrap (k : Int) = k := IntWalk.i16_in _ (by omega)
          have hsd := goP_seed kp
          have hsb := HF1.out.sb k
          have hn : 0 ≤ F1.eatN k l1 ∧ F1.eatN k l1 ≤ F1.seed k ∧ F1.eatN k l1 ≤ l1 ∧ 0 < F1.eatN k l1 := by unfold Fld.eatN; omega
          have hok := Fld.eat_ok HF1.out k l0 (by omega : 0 ≤ F1.seed k)
          have HST := Lib.hid (fits_step HFIT.out hl0 HC.out.symm)
          have TK := Lib.hid (fun (w : World) => l02Eat_any F1 HF1.out k k0 l1 l0 (by omega) w)
          obtain ⟨N, hN⟩ : ∃ N, N = F1.eatN k l1 := ⟨_, rfl⟩
          obtain ⟨G, hG⟩ : ∃ G, G = F1.eat k l1 := ⟨_, rfl⟩
          rw [← hN] at TK HST hn
          rw [← hG] at TK HST hok
          have HOK := Lib.hid hok
          have S3 := Lib.hid (Fld.size hok.toLen)
          have O2 := Lib.hid (Fld.one G)
          have V2 := Lib.hid (Visit.one ⟨i, k, N⟩)
          have i16n : IntKind.i16.wrap N = N := IntWalk.i16_in _ (by omega)
          have e64 : IntKind.i64.wrap (l1 - N) = l1 - N := IntWalk.i64_in _ (by omega)
          have hgl : (0 < l1) = True := by simp; omega
          clear hN hG hok hsd hsb kp
          go_wp2_with (first
            | (go_at_call 70; go_must (refine (CH.out _ (M.out.blk 0 rfl) (M.out.arg HFB.out) (M.out.argrange HX.out)).mono ?_); rintro e w_ ⟨rfl, N_⟩; have m := M.out.join N_; clear N_; simp only [List.cons_append, List.nil_append, List.append_nil] at m; have M := Lib.hid m; clear m)
            | (go_at_call 71; go_must (refine (TK.out _).mono ?_); rintro e w_ ⟨rfl, N_⟩; have m := M.out.join N_; clear N_; simp only [List.cons_append, List.nil_append, List.append_nil] at m; have M := Lib.hid m; clear m)
            | ((with_reducible refine gate_dst (N := 13) rfl ?_); go_must (refine M.out.ev_new rfl (by first | (go_simp; done) | (go_simp; rfl)) ?_); intro g13 w13 m; simp only [List.cons_append, List.nil_append, zeroFld] at m; have M := Lib.hid m; clear m)
            | ((with_reducible refine gate_store (x := .tmp 13) rfl ?_); go_must (refine M.out.ev_stw 3 _ _ _ rfl rfl rfl rfl G.cells rfl (by rw [S2.out, S3.out]) (by rw [S3.out]; exact sz29) O2.out rfl ?_); intro wn m; simp only [List.set_cons_succ, List.set_cons_zero] at m; have M := Lib.hid m; clear m)
            | ((with_reducible refine gate_dst (N := 37) rfl ?_); go_must (refine M.out.ev_ldw 3 _ _ rfl rfl rfl Try.underlying29 rfl (by rw [S3.out]; exact sz29) rfl ?_))
            | ((with_reducible refine gate_store (x := .tmp 4) rfl ?_); go_must (refine M.out.ev_stw 0 _ _ _ rfl rfl rfl rfl G.cells rfl (by rw [S1.out, S3.out]) (by rw [S3.out]; exact sz29) O2.out rfl ?_); intro wn m; simp only [List.set_cons_succ, List.set_cons_zero] at m; have M := Lib.hid m; clear m)
            | ((with_reducible refine gate_dst (N := 49) rfl ?_); go_must (refine M.out.ev_bs1 elem_Visit rfl _ rfl (Visit.vals ⟨i, k, N⟩).toArray rfl rfl (by decide) ?_); intro g49 w49 m; simp only [List.cons_append, List.nil_append] at m; have M := Lib.hid m; clear m)
            | ((with_reducible refine gate_dst (N := 50) rfl ?_); go_must (refine M.out.ev_append1 2 4 elem_Visit rfl _ _ rfl rfl rfl rfl rfl rfl (Visit.one _) (by omega) (by decide) ?_); intro v50 w50 m; simp only [List.set_cons_succ, List.set_cons_zero] at m; have M := Lib.hid m; clear m)
            | ((with_reducible refine gate_dst (N := 4) rfl ?_); go_must (refine M.out.ev_new rfl (by first | (go_simp; done) | (go_simp; rfl)) ?_); intro g4 w4 m; simp only [List.cons_append, List.nil_append] at m; have M := Lib.hid m; clear m)
            | ((with_reducible refine gate_dst (N := 8) rfl ?_); go_must (refine M.out.ev_new rfl (by first | (go_simp; done) | (go_simp; rfl)) ?_); intro g8 w8 m; simp only [List.cons_append, List.nil_append] at m; have M := Lib.hid m; clear m)
            | ((with_reducible refine gate_dst (N := 31) rfl ?_); go_must (refine M.out.ev_ldw 0 _ _ rfl rfl rfl Try.underlying29 rfl (by first | exact sz29 | (rw [S1.out]; exact sz29) | (rw [S2.out]; exact sz29) | (rw [S3.out]; exact sz29)) rfl ?_))
            | ((with_reducible refine gate_dst (N := 13) rfl ?_); go_must (refine M.out.ev_new rfl (by first | (go_simp; done) | (go_simp; rfl)) ?_); intro g13 w13 m; simp only [List.cons_append, List.nil_append] at m; have M := Lib.hid m; clear m)
            | ((with_reducible refine gate_store (x := .tmp 13) rfl ?_); go_must (refine M.out.ev_stw 2 _ _ _ rfl rfl rfl rfl _ rfl (by first | rfl | (simp only [S1.out]; rfl) | (simp only [S1.out, S2.out]; rfl) | (simp only [S3.out]; rfl) | (simp only [S1.out, S2.out, S3.out]; rfl)) (by first | exact sz29 | (rw [S1.out]; exact sz29) | (rw [S2.out]; exact sz29) | (rw [S3.out]; exact sz29)) (by first | exact ints_one _ _ | exact Fld.one _ | exact O1.out | rfl | (simp [Value.oneCell']; done)) rfl ?_); intro wn m; simp only [List.set_cons_succ, List.set_cons_zero, List.setIfInBounds_toArray] at m; have M := Lib.hid m; clear m)
            | ((with_reducible refine gate_dst (N := 37) rfl ?_); go_must (refine M.out.ev_ldw 2 _ _ rfl rfl rfl Try.underlying29 rfl (by first | exact sz29 | (rw [S1.out]; exact sz29) | (rw [S2.out]; exact sz29) | (rw [S3.out]; exact sz29)) rfl ?_))
            | ((with_reducible refine gate_store (x := .tmp 4) rfl ?_); go_must (refine M.out.ev_stw 0 _ _ _ rfl rfl rfl rfl _ rfl (by first | rfl | (simp only [S1.out]; rfl) | (simp only [S1.out, S2.out]; rfl) | (simp only [S3.out]; rfl) | (simp only [S1.out, S2.out, S3.out]; rfl)) (by first | exact sz29 | (rw [S1.out]; exact sz29) | (rw [S2.out]; exact sz29) | (rw [S3.out]; exact sz29)) (by first | exact ints_one _ _ | exact Fld.one _ | exact O1.out | rfl | (simp [Value.oneCell']; done)) rfl ?_); intro wn m; simp only [List.set_cons_succ, List.set_cons_zero, List.setIfInBounds_toArray] at m; have M := Lib.hid m; clear m)
            | ((with_reducible refine gate_dst (N := 51) rfl ?_); go_must (refine M.out.ev_ldw 0 _ _ rfl rfl rfl Try.underlying29 rfl (by first | exact sz29 | (rw [S1.out]; exact sz29) | (rw [S2.out]; exact sz29) | (rw [S3.out]; exact sz29)) rfl ?_))
            | ((with_reducible refine gate_store (x := .tmp 8) rfl ?_); go_must (refine M.out.ev_stw 1 _ _ _ rfl rfl rfl rfl _ rfl (by first | rfl | (simp only [S1.out]; rfl) | (simp only [S1.out, S2.out]; rfl) | (simp only [S3.out]; rfl) | (simp only [S1.out, S2.out, S3.out]; rfl)) (by first | exact sz29 | (rw [S1.out]; exact sz29) | (rw [S2.out]; exact sz29) | (rw [S3.out]; exact sz29)) (by first | exact ints_one _ _ | exact Fld.one _ | exact O1.out | rfl | (simp [Value.oneCell']; done)) rfl ?_); intro wn m; simp only [List.set_cons_succ, List.set_cons_zero, List.setIfInBounds_toArray] at m; have M := Lib.hid m; clear m)
            )
          refine ⟨⟨vs ++ [⟨i, k, N⟩], m, G, l1 - N, rfl, by simp; omega, HST.out, HOK.out, by omega, by omega, ?_⟩, by simp [intOf]; omega⟩
          have mm := M.out.take 3
          rw [flat_snoc, List.length_append]
          exact mm
end Go.Proofs.Ytlonbgomdabmmaa
namespace Go.Proofs.Ytlonbgomdabmmaa
set_option linter.unusedSimpArgs false
set_option linter.unusedVariables false
open Go.RowKit

theorem Mem.row_cap {w0 w : World} {L : List Ent} (M : Mem w0 w L) (i : Nat) {A : Option Addr} {m c : Nat} {e : TypeId} {sz n : Nat} {cs : List Value} (h : L[i]? = some (.row (.slice A m c) e sz n cs)) : c ≤ 9223372036854775807 := by
  obtain ⟨A', c', he, _, hm⟩ := M.row_slice i h
  injection he with _ _ he
  unfold maxLen at hm
  omega
theorem Mem.row_le {w0 w : World} {L : List Ent} (M : Mem w0 w L) (i : Nat) {A : Option Addr} {m c : Nat} {e : TypeId} {sz n : Nat} {cs : List Value} (h : L[i]? = some (.row (.slice A m c) e sz n cs)) : n ≤ c ∧ m = n := by
  obtain ⟨A', c', he, hm, _⟩ := M.row_slice i h
  injection he with _ he2 he
  omega
end Go.Proofs.Ytlonbgomdabmmaa
namespace Go.Proofs.Ytlonbgomdabmmaa
set_option linter.unusedSimpArgs false
set_option linter.unusedVariables false
open Go.RowKit

theorem merge1 {α : Type} {G : Prop} {K T : α → World → Prop} (hA : (∀ a w, K a w → T a w) → G) (hB : ∀ a w, K a w → T a w) : G := hA hB
theorem merge2 {α β : Type} {G : Prop} {K T : α → β → World → Prop} (hA : (∀ a b w, K a b w → T a b w) → G) (hB : ∀ a b w, K a b w → T a b w) : G := hA hB
theorem merge3 {α β γ : Type} {G : Prop} {K T : α → β → γ → World → Prop} (hA : (∀ a b c w, K a b c w → T a b c w) → G) (hB : ∀ a b c w, K a b c w → T a b c w) : G := hA hB
section
variable {P : Program} {ops : Array Oper} {rest : List Oper} {o : Oper} {a : Act} {w : World} {Q : Exit → Act → World → Prop}
/-- An operation whose guard lets it run. -/
theorem gate_want (hw : Region.wanted o (yielded ops a.tmps) = true) (h : wpList P ops Q ({ o with guard := none } :: rest) a w) : wpList P ops Q (o :: rest) a w := by
  unfold wpList at h ⊢
  rw [if_pos hw]
  rw [if_pos (by simp [Region.wanted])] at h
  exact h
end
section
variable {P : Program} {md : Region.Mode} {ops : Array Oper} {Q : Exit → Act → World → Prop} {S : World → Prop} {fuel : Nat} {listed : Array Bool} {a : Act} {w : World}
theorem yldwW {o : Oper} (T : TypeId) (x : Operand) (ho : o.op = .load T x) (hw : Region.wanted o (yielded ops a.tmps) = true) {g : Nat} {t : TypeId} {cs : Array Value} {d : TypeDesc} (hu : P.underlying T = some d)
    (hd : (match d with | .struct _ | .array _ _ => true | _ => false) = true) (hi : (P.info? T).map (·.size) = some cs.size) (hx : a.eval x = .pointer (some ⟨g, 0, none⟩)) (hb : ∀ w, S w → Blk w g t cs) : YieldsIf P ops S o (.agg cs) a :=
  .inl ⟨hw, fun w hS => by
    have hagg : (isAgg T).run P w = .ok true w := by
      unfold isAgg
      rw [Sem.run_bind, run_underlying hu w]
      cases d <;> simp_all
    unfold execOp
    simp only [ho, hx, Instr.loadAt, Instr.sureAddr, Sem.run_bind, Result.andThen_ok, run_loadVar_row w g t T cs (0, 0) d (hb w hS) hu hd hi, Sem.run_pure, hagg]⟩
theorem any3H (i j k : Nat) {o o' o'' : Oper} (hr : Region.ready md ops listed = [i, j, k]) (ho : ops[i]? = some o) (ho' : ops[j]? = some o') (ho'' : ops[k]? = some o'')
    (h : ∀ K : Act → World → Prop, (∀ a w, S w ∧ wpAnyH P md ops Q S fuel (listed.setIfInBounds i true) a w → K a w) → wpList P ops (onward K) [o] a w)
    (h' : ∀ K : Act → World → Prop, (∀ a w, S w ∧ wpAnyH P md ops Q S fuel (listed.setIfInBounds j true) a w → K a w) → wpList P ops (onward K) [o'] a w)
    (h'' : ∀ K : Act → World → Prop, (∀ a w, S w ∧ wpAnyH P md ops Q S fuel (listed.setIfInBounds k true) a w → K a w) → wpList P ops (onward K) [o''] a w) : wpAnyH P md ops Q S (fuel + 1) listed a w :=
  wpAnyH_all hr (by simp) fun l hl => by
    rcases List.mem_cons.1 hl with rfl | hl
    · exact wpOp_onward ho (h _ fun _ _ h => h)
    · rcases List.mem_cons.1 hl with rfl | hl
      · exact wpOp_onward ho' (h' _ fun _ _ h => h)
      · rw [List.mem_singleton.1 hl]
        exact wpOp_onward ho'' (h'' _ fun _ _ h => h)
end
end Go.Proofs.Ytlonbgomdabmmaa
