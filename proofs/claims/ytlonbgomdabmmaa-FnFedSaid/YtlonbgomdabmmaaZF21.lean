/- Texts of a proof, laid together: FedW. -/
import Derived.Test.YtlonbgomdabmmaaZF20
namespace Go.Proofs.Ytlonbgomdabmmaa
set_option linter.unusedSimpArgs false
set_option linter.unusedVariables false
open Go.RowKit
attribute [local go_sem] cell?_mk frozen?_mk
--ONES exact Fld.one _ | exact Visit.one _ | exact ints_one _ _

theorem fedS_b {g : Nat → Int} {n : Nat} (h : ∀ i, i < n → 0 ≤ g i ∧ g i ≤ 4000) : ∀ k, k ≤ n → 0 ≤ fedS g k ∧ fedS g k ≤ 4000 * (k : Int)
  | 0, _ => ⟨Int.le_refl 0, Int.le_refl 0⟩
  | k + 1, hk => by
    have ih := fedS_b h k (by omega)
    have := h k (by omega)
    rw [fedS]
    omega
theorem gi_atF {ds : List Int} {i : Nat} (h : i < ds.length) : ds[i]? = some (gi ds i) := by
  unfold gi
  rw [List.getD_eq_getElem?_getD, List.getElem?_eq_getElem h]
  rfl
theorem mulB20 {a b : Int} (h1 : 0 ≤ a ∧ a ≤ 5) (h2 : 0 ≤ b ∧ b ≤ 4) : 0 ≤ a * b ∧ a * b ≤ 20 :=
  ⟨Int.mul_nonneg h1.1 h2.1, Int.le_trans (Int.mul_le_mul h1.2 h2.2 h2.1 (by omega)) (by decide)⟩
/-- A visit of a chain, in whole numbers. -/
theorem visit_at {F G : Fld} {fs : List Int} {xs : List Flock} {vs : List Visit} (h : Chain fs xs F 0 vs G) (hF : F.ok) (hv : F.valid = true) {k : Nat} (hk : k < vs.length) :
    ∃ i c : Nat, ∃ q : Int, ∃ x : Flock, vs[k]? = some ⟨i, c, q⟩ ∧ xs[i]? = some x ∧ i < xs.length ∧ c < 100 ∧ F.has (c : Int) = true ∧ 1 ≤ q ∧ q ≤ (nowAt F vs k).seed c ∧ (nowAt F vs k).seed c ≤ 1000 ∧ gi fs c ≤ x.bold ∧
      nowAt F vs (k + 1) = (nowAt F vs k).withSeed c ((nowAt F vs k).seed c - q) ∧ (nowAt F vs k).ok ∧ (0 < k → ∃ p : Visit, vs[k - 1]? = some p ∧ p.flock ≤ i) := by
  obtain ⟨h1, h2, h3, h4⟩ := (h.at_ hF hv).2 k hk
  obtain ⟨i, hi, hvi, hb⟩ := h1.ix
  obtain ⟨c, hc, hvc, hh⟩ := h1.cl
  have hs2 := h1.s2
  rw [hvc, Int.toNat_natCast] at hs2 hb
  have hn := nowAt_succ F hk
  unfold eatV at hn
  rw [hvc, Int.toNat_natCast] at hn
  have hat := Fld.okAt_iff.1 (Fld.valid_at h3 hc)
  refine ⟨i, c, vs[k].seeds, xs[i], ?_, List.getElem?_eq_getElem hi, hi, hc, ?_, h1.s1, hs2, hat.2.2.2.1, hb, hn, h2, fun h0 => ?_⟩
  · rw [List.getElem?_eq_getElem hk]
    congr 1
    rcases hx : vs[k] with ⟨a, b, d⟩
    rw [hx] at hvi hvc
    dsimp only at hvi hvc
    rw [hvi, hvc]
  · rw [← h4.has]
    exact hh
  · refine ⟨vs[k - 1], List.getElem?_eq_getElem (by omega), ?_⟩
    have := h1.lo
    rw [if_neg (by omega), flk_at (by omega), hvi] at this
    exact this
set_option maxRecDepth 100000 in
set_option maxHeartbeats 20000000 in
theorem FnFed_any (A B : Option Addr) (na nb : Nat) (bs cs : List Int) (hb : ∀ x ∈ bs, U8.ok x) (hc : ∀ x ∈ cs, U8.ok x) (hbl : bs.length ≤ 3000) (hcl : cs.length ≤ 3000) (w : World) (hs : Sl w 1 A bs.length (flat oneB bs)) (ht : Sl w 1 B cs.length (flat oneB cs)) :
    Calls Try.prog 3 #[.slice A bs.length na, .slice B cs.length nb] w fun e w' => e = .returned (.bool true) ∧ Mem w w' [] := by
  have M := Lib.hid (Mem.start w)
  have HS := Lib.hid hs
  have HT := Lib.hid ht
  have YB := Lib.hid (U8.bytes hb (by omega))
  have YC := Lib.hid (U8.bytes hc (by omega))
  have G1 := Lib.hid (show (decide (3000 < bs.length) || decide (3000 < cs.length)) = false by rw [decide_eq_false (by omega), decide_eq_false (by omega)]; rfl)
  clear hs ht hb hc hbl hcl
  go_enter Try.func3, Try.ntmps3
  go_wp2_with (first
    | (go_at_call 4; go_must (refine (a2Long_any A B bs.length cs.length na nb _).mono ?_); rintro e w_ ⟨rfl, rfl⟩; rw [G1.out])
    | (go_at_call 5; go_must (refine (A2Field_any A na bs YB.out _ (M.out.sl HS.out)).mono ?_); rintro e w_ ⟨F, rfl, hF, N_⟩; have m := M.out.join N_; clear N_; simp only [List.cons_append, List.nil_append, List.append_nil] at m; have M := Lib.hid m; clear m; have WF := Lib.hid hF; have S1 := Lib.hid (Fld.size hF.ok.toLen); clear hF)
    | ((with_reducible refine gate_dst (N := 5) rfl ?_); go_must (refine M.out.ev_new rfl (by first | (go_simp; done) | (go_simp; rfl)) ?_); intro g5 w5 m; simp only [List.cons_append, List.nil_append] at m; have M := Lib.hid m; clear m)
    | ((with_reducible refine gate_store (x := .tmp 5) rfl ?_); go_must (refine M.out.ev_stw 0 _ _ _ rfl rfl rfl rfl _ rfl (by rw [S1.out]; exact szZ) (by rw [S1.out]; exact sz29) (Fld.one _) rfl ?_); intro wn m; simp only [List.set_cons_zero, List.set_cons_succ] at m; have M := Lib.hid m; clear m)
    | ((with_reducible refine gate_dst (N := 65) rfl ?_); go_must (refine M.out.ev_ldw 0 _ _ rfl rfl rfl Try.underlying29 rfl (by rw [S1.out]; exact sz29) rfl ?_))
    | (go_at_call 6; go_must (refine (A2Fears_any B nb cs YC.out F WF.out.ok _ (M.out.sl HT.out)).mono ?_); rintro e w_ ⟨fs, rfl, hA, N_⟩; have m := M.out.join N_; clear N_; simp only [List.cons_append, List.nil_append, List.append_nil] at m; have M := Lib.hid m; clear m; have AF := Lib.hid hA; have SF := Lib.hid (show (ints .i16 fs).size = 100 by rw [ints_size, hA.len]); clear hA)
    | ((with_reducible refine gate_dst (N := 6) rfl ?_); go_must (refine M.out.ev_new rfl (by first | (go_simp; done) | (go_simp; rfl)) ?_); intro g6 w6 m; simp only [List.cons_append, List.nil_append] at m; have M := Lib.hid m; clear m)
    | ((with_reducible refine gate_store (x := .tmp 6) rfl ?_); go_must (refine M.out.ev_stw 1 _ _ _ rfl rfl rfl rfl _ rfl (by rw [SF.out, zeroFears]; rfl) (by rw [SF.out]; exact sz31) (ints_one _ _) rfl ?_); intro wn m; simp only [List.set_cons_zero, List.set_cons_succ] at m; have M := Lib.hid m; clear m)
    | ((with_reducible refine gate_dst (N := 68) rfl ?_); go_must (refine M.out.ev_ldw 0 _ _ rfl rfl rfl Try.underlying29 rfl (by rw [S1.out]; exact sz29) rfl ?_))
    | (go_at_call 7; go_must (refine (A2Flocks_any B nb cs YC.out F WF.out _ (M.out.sl HT.out)).mono ?_); rintro e w_ ⟨xs, Bx, cp, rfl, hX, h1, h3, hcp, N_⟩; have m := M.out.join N_; clear N_; simp only [List.cons_append, List.nil_append, List.append_nil] at m; have M := Lib.hid m; clear m; obtain ⟨G, vs, E, H, x0, G2, ws, O, V, z, D, L, K, C_⟩ := fed_all WF.out AF.out hX h1 h3; have C := Lib.hid C_; have S2 := Lib.hid (Fld.size C_.say.gok.toLen); have HQ := Lib.hid (fun w => neqFld G C_.say.gok.toLen w); obtain ⟨xb, xo, rfl, _⟩ := (M.out.slof 2 rfl).2 (by omega); have z1 : ((E.length : Int) != (xs.length : Int)) = false := (by have := C_.say.el; simp; omega); have el1 : xs.length ≤ E.length := (by have := C_.say.el; omega); have vl12 := C_.vl; have hl12 := C_.hl; clear C_ hX)
    | ((with_reducible refine gate_dst (N := 71) rfl ?_); go_must (refine M.out.ev_ldw 0 _ _ rfl rfl rfl Try.underlying29 rfl (by rw [S1.out]; exact sz29) rfl ?_))
    | ((with_reducible refine gate_dst (N := 72) rfl ?_); go_must (refine M.out.ev_ldw 1 _ _ rfl rfl rfl Try.underlying31 rfl (by rw [SF.out]; exact sz31) rfl ?_))
    | (go_at_call 8; go_must (refine (C.out.fa _ _ _ (M.out.slof 2 rfl)).mono ?_); rintro e w_ ⟨A9, c9, rfl, hc9, N_⟩; have m := M.out.join N_; clear N_; simp only [List.cons_append, List.nil_append, List.append_nil] at m; have M := Lib.hid m; clear m)
    | ((with_reducible refine gate_dst (N := 8) rfl ?_); go_must (refine M.out.ev_new rfl (by first | (go_simp; done) | (go_simp; rfl)) ?_); intro g8 w8 m; simp only [List.cons_append, List.nil_append] at m; have M := Lib.hid m; clear m)
    | ((with_reducible refine gate_store (x := .tmp 8) rfl ?_); go_must (refine M.out.ev_stw 4 _ _ _ rfl rfl rfl rfl _ rfl (by rw [S2.out]; exact szZ) (by rw [S2.out]; exact sz29) (Fld.one _) rfl ?_); intro wn m; simp only [List.set_cons_zero, List.set_cons_succ] at m; have M := Lib.hid m; clear m)
    | ((with_reducible refine gate_dst (N := 79) rfl ?_); go_must (refine M.out.ev_ldw 0 _ _ rfl rfl rfl Try.underlying29 rfl (by rw [S1.out]; exact sz29) rfl ?_))
    | ((with_reducible refine gate_dst (N := 80) rfl ?_); go_must (refine M.out.ev_ldw 1 _ _ rfl rfl rfl Try.underlying31 rfl (by rw [SF.out]; exact sz31) rfl ?_))
    | (go_at_call 9; go_must (refine (C.out.sa _ _ _ (M.out.slof 2 rfl)).mono ?_); rintro e w_ ⟨A12, c12, rfl, hc12, N_⟩; have m := M.out.join N_; clear N_; simp only [List.cons_append, List.nil_append, List.append_nil] at m; have M := Lib.hid m; clear m)
    | ((with_reducible refine gate_dst (N := 11) rfl ?_); go_must (refine M.out.ev_new rfl (by first | (go_simp; done) | (go_simp; rfl)) ?_); intro g11 w11 m; simp only [List.cons_append, List.nil_append] at m; have M := Lib.hid m; clear m)
    | ((with_reducible refine gate_store (x := .tmp 11) rfl ?_); go_must (refine M.out.ev_stw 6 _ _ _ rfl rfl rfl rfl _ rfl (by rw [S2.out]; exact szZ) (by rw [S2.out]; exact sz29) (Fld.one _) rfl ?_); intro wn m; simp only [List.set_cons_zero, List.set_cons_succ] at m; have M := Lib.hid m; clear m)
    | ((with_reducible refine gate_dst (N := 87) rfl ?_); go_must (refine M.out.ev_ldw 0 _ _ rfl rfl rfl Try.underlying29 rfl (by rw [S1.out]; exact sz29) rfl ?_))
    | ((with_reducible refine gate_dst (N := 92) rfl ?_); go_must (refine M.out.ev_ldw 6 _ _ rfl rfl rfl Try.underlying29 rfl (by rw [S2.out]; exact sz29) rfl ?_))
    | (go_at_call 10; go_must (first | (refine Calls.mono (calls_args (by with_reducible rfl) (impl_SeedsIn_any F WF.out.ok WF.out.valid _)) ?_) | (refine Calls.mono (calls_args (by with_reducible rfl) (impl_SeedsIn_any G C.out.say.gok C.out.say.gv _)) ?_)); rintro e w_ ⟨rfl, N_⟩; have m := M.out.join N_; clear N_; simp only [List.cons_append, List.nil_append, List.append_nil] at m; have M := Lib.hid m; clear m)
    | ((with_reducible refine gate_dst (N := 97) rfl ?_); go_must (refine M.out.ev_ldw 0 _ _ rfl rfl rfl Try.underlying29 rfl (by rw [S1.out]; exact sz29) rfl ?_))
    | (go_at_call 11; go_must (refine (C.out.eb _ _ _ _ _ (M.out.slof 2 rfl) (M.out.slof 5 rfl)).mono ?_); rintro e w_ ⟨A18, c18, rfl, hc18, N_⟩; have m := M.out.join N_; clear N_; simp only [List.cons_append, List.nil_append, List.append_nil] at m; have M := Lib.hid m; clear m)
    | ((with_reducible refine gate_dst (N := 104) rfl ?_); go_must (refine M.out.ev_ldw 0 _ _ rfl rfl rfl Try.underlying29 rfl (by rw [S1.out]; exact sz29) rfl ?_))
    | ((with_reducible refine gate_dst (N := 105) rfl ?_); go_must (refine M.out.ev_ldw 1 _ _ rfl rfl rfl Try.underlying31 rfl (by rw [SF.out]; exact sz31) rfl ?_))
    | (go_at_call 12; go_must (refine (C.out.sh _ _ _ (M.out.slof 2 rfl)).mono ?_); rintro e w_ ⟨A20, c20, rfl, hc20, N_⟩; have m := M.out.join N_; clear N_; simp only [List.cons_append, List.nil_append, List.append_nil] at m; have M := Lib.hid m; clear m; have heq := HQ.out)
    | ((with_reducible refine gate_dst (N := 118) rfl ?_); refine gate_want rfl ?_; go_must (refine M.out.ev_ldw 4 _ _ rfl rfl rfl Try.underlying29 rfl (by rw [S2.out]; exact sz29) rfl ?_))
    | ((with_reducible refine gate_dst (N := 119) rfl ?_); refine gate_want rfl ?_; go_must (refine M.out.ev_ldw 6 _ _ rfl rfl rfl Try.underlying29 rfl (by rw [S2.out]; exact sz29) rfl ?_))
    | ((with_reducible refine gate_dst (N := 152) rfl ?_); refine gate_want rfl ?_; go_must (refine M.out.ev_ldw 6 _ _ rfl rfl rfl Try.underlying29 rfl (by rw [S2.out]; exact sz29) rfl ?_))
    | (go_at_call 13; go_must (refine (VisitSame_any _ _ _ _ vs _ (by omega) (M.out.slof 3 rfl) (M.out.slof 5 rfl)).mono ?_); rintro e w_ ⟨rfl, N_⟩; have m := M.out.join N_; clear N_; simp only [List.cons_append, List.nil_append, List.append_nil] at m; have M := Lib.hid m; clear m)
    | (go_at_call 14; go_must (refine (ValidField_any G C.out.say.gok _).mono ?_); rintro e w_ ⟨rfl, N_⟩; have m := M.out.join N_; clear N_; simp only [List.cons_append, List.nil_append, List.append_nil] at m; have M := Lib.hid m; clear m; rw [C.out.say.gv])
    )
  clear z1 heq
  go_loopw [22, 23] (fun u v wr => ∃ k : Nat, k ≤ xs.length ∧ v = .int .i64 k ∧ u = .int .i64 (fedS (gi E) k) ∧ Mem w wr [.blk g5 29 F.cells, .blk g6 31 (ints .i16 fs), .row (.slice (some ⟨xb, xo, none⟩) xs.length cp) 48 6 xs.length (flat Flock.vals xs), .row (.slice A12 vs.length c12) 51 3 vs.length (flat Visit.vals vs), .blk g11 29 G.cells, .row (.slice A18 E.length c18) 2 1 E.length (flat oneI E), .row (.slice A20 H.length c20) 2 1 H.length (flat oneI H)])
    (fun _ v _ => xs.length - (intOf v).toNat)
  case atStart => exact ⟨0, by omega, rfl, rfl, M.out.only [0, 1, 2, 5, 6, 7, 8] (K := [_, _, _, _, _, _, _]) rfl (by decide)⟩
  case round =>
    clear M
    obtain ⟨k, hk, rfl, rfl, m⟩ := hrel
    have M := Lib.hid m
    clear m
    by_cases hlt : k < xs.length
    · as_aux_lemma =>
      have HXK := Lib.hid (show xs[k]? = some xs[k] from List.getElem?_eq_getElem hlt)
      have HEK := Lib.hid (gi_atF (ds := E) (i := k) (by omega))
      obtain ⟨hhx, hbx, hex, hho⟩ := C.out.ho k _ HXK.out
      have HHO := Lib.hid hho
      have HHS := Lib.hid (C.out.say.hs k hlt)
      have he0 := C.out.say.e0 k hlt
      have E1 := Lib.hid (show fedS (gi E) (k + 1) = fedS (gi E) k + gi E k from rfl)
      have sb := fedS_b (g := gi E) (n := xs.length) (fun i hi => by
        have a := C.out.say.e0 i hi
        obtain ⟨q1, q2, q3, _⟩ := C.out.ho i _ (List.getElem?_eq_getElem hi)
        have q4 := mulB20 q2 q3
        omega) k hk
      obtain ⟨eb, eo, rfl, _⟩ := (M.out.slof 5 rfl).2 (by omega)
      have hm20 := mulB20 hbx hex
      have i0 : (0 : Int) ≤ (k : Int) := by omega
      have i1 : (k : Int) < (xs.length : Int) := by omega
      have i2 : (k : Int) < (E.length : Int) := by omega
      obtain ⟨x, hx⟩ : ∃ x, x = xs[k] := ⟨_, rfl⟩
      rw [← hx] at HXK HHO hhx hbx hex hm20
      obtain ⟨h, hh⟩ : ∃ h, h = hgr xs k := ⟨_, rfl⟩
      rw [← hh] at HHO HHS he0 hhx
      obtain ⟨y, hy⟩ : ∃ y, y = gi E k := ⟨_, rfl⟩
      rw [← hy] at HEK HHS he0 E1
      obtain ⟨s, hs⟩ : ∃ s, s = fedS (gi E) k := ⟨_, rfl⟩
      rw [← hs] at E1 sb ⊢
      obtain ⟨bb, hbb⟩ : ∃ bb, bb = decide (y < h) := ⟨_, rfl⟩
      rw [← hbb] at HHS
      clear hx hh hy hs hho
      have d1 : decide (y < 0) = false := decide_eq_false (by omega)
      have d2 : decide (h < y) = false := decide_eq_false (by omega)
      have d3 : decide (y < h) = bb := hbb.symm
      have w1 : IntKind.i64.wrap x.birds = x.birds := IntWalk.i64_in _ (by omega)
      have w2 : IntKind.i64.wrap x.eats = x.eats := IntWalk.i64_in _ (by omega)
      have w3 : IntKind.i64.wrap (x.birds * x.eats) = h := by rw [hhx]; exact IntWalk.i64_in _ (by omega)
      have w4 : IntKind.i64.wrap (s + y) = s + y := IntWalk.i64_in _ (by omega)
      clear hbb hhx hbx hex hm20
      go_wp2
      refine region_anyH (fun w' => Mem w w' [.blk g5 29 F.cells, .blk g6 31 (ints .i16 fs), .row (.slice (some ⟨xb, xo, none⟩) xs.length cp) 48 6 xs.length (flat Flock.vals xs), .row (.slice A12 vs.length c12) 51 3 vs.length (flat Visit.vals vs), .blk g11 29 G.cells, .row (.slice (some ⟨eb, eo, none⟩) E.length c18) 2 1 E.length (flat oneI E), .row (.slice A20 H.length c20) 2 1 H.length (flat oneI H)]) (by kernel_rfl) ?_
      have m := M.out.drew
      clear M
      have M := Lib.hid m
      clear m
      apply takeH (i := 0) 163 rfl (by kernel_rfl) (by kernel_rfl) (by kernel_rfl) (fun _ _ _ h => h) rfl (by first | exact M.out | exact M.out.take 7)
      case' hy => exact yldw _ _ rfl rfl Try.underlying29 rfl (by first | exact sz29 | (rw [S1.out]; exact sz29) | (rw [S2.out]; exact sz29) | (rw [S3.out]; exact sz29)) rfl (fun w' hS => hS.blk 0 rfl)
      try simp only [Act.put, List.getElem_toArray, List.getElem_cons_succ, List.getElem_cons_zero, List.setIfInBounds_toArray, List.set_cons_succ, List.set_cons_zero]
      apply takeH (i := 1) 164 rfl (by kernel_rfl) (by kernel_rfl) (by kernel_rfl) (fun _ _ _ h => h) rfl (by first | exact M.out | exact M.out.take 7)
      case' hy =>
        refine Or.inl ⟨by first | rfl | (go_simp; done), ?_⟩
        intro w hS
        clear hS
        go_simp
        try with_reducible rfl
      try simp only [Act.put, List.getElem_toArray, List.getElem_cons_succ, List.getElem_cons_zero, List.setIfInBounds_toArray, List.set_cons_succ, List.set_cons_zero]
      apply takeH (i := 2) 165 rfl (by kernel_rfl) (by kernel_rfl) (by kernel_rfl) (fun _ _ _ h => h) rfl (by first | exact M.out | exact M.out.take 7)
      case' hy =>
        refine Or.inl ⟨by first | rfl | (go_simp; done), ?_⟩
        intro w hS
        clear hS
        go_simp
        try with_reducible rfl
      try simp only [Act.put, List.getElem_toArray, List.getElem_cons_succ, List.getElem_cons_zero, List.setIfInBounds_toArray, List.set_cons_succ, List.set_cons_zero]
      apply takeH (i := 3) 166 rfl (by kernel_rfl) (by kernel_rfl) (by kernel_rfl) (fun _ _ _ h => h) rfl (by first | exact M.out | exact M.out.take 7)
      case' hy =>
        refine Or.inl ⟨by first | rfl | (go_simp; done), ?_⟩
        intro w hS
        clear hS
        go_simp
        try with_reducible rfl
      try simp only [Act.put, List.getElem_toArray, List.getElem_cons_succ, List.getElem_cons_zero, List.setIfInBounds_toArray, List.set_cons_succ, List.set_cons_zero]
      apply takeH (i := 4) 167 rfl (by kernel_rfl) (by kernel_rfl) (by kernel_rfl) (fun _ _ _ h => h) rfl (by first | exact M.out | exact M.out.take 7)
      case' hy => exact yieldsIf_load_mid (by first | rfl | (go_simp; done)) _ _ rfl _ _ rfl _ _ (fun w' hS => range_at Flock.vl (sl_rangeFlock (hS.slof 2 rfl) hlt) HXK.out) Try.underlying48 rfl sz48
      try simp only [Act.put, List.getElem_toArray, List.getElem_cons_succ, List.getElem_cons_zero, List.setIfInBounds_toArray, List.set_cons_succ, List.set_cons_zero]
      refine any1H 5 (by kernel_rfl) rfl (fun K hK => ?_)
      go_wp2_with (first | ((with_reducible refine gate_dst (N := 163) rfl ?_); go_must (refine M.out.ev_ldw 0 _ _ rfl rfl rfl Try.underlying29 rfl (by first | exact sz29 | (rw [S1.out]; exact sz29) | (rw [S2.out]; exact sz29) | (rw [S3.out]; exact sz29)) rfl ?_)) | (go_at_call 15; go_must (refine (HHO.out _).mono ?_); rintro e w_ ⟨rfl, N_⟩; have m := M.out.join N_; clear N_; simp only [List.cons_append, List.nil_append, List.append_nil] at m; have M := Lib.hid m; clear m))
      refine onward_normal (hK _ _ ⟨(by first | exact M.out | exact M.out.take 7), ?_⟩)
      clear hK K
      try simp only [Act.put, List.getElem_toArray, List.getElem_cons_succ, List.getElem_cons_zero, List.setIfInBounds_toArray, List.set_cons_succ, List.set_cons_zero]
      apply takeH (i := 6) 162 rfl (by kernel_rfl) (by kernel_rfl) (by kernel_rfl) (fun _ _ _ h => h) rfl (by first | exact M.out | exact M.out.take 7)
      case' hy =>
        refine Or.inl ⟨by first | rfl | (go_simp; done), ?_⟩
        intro w hS
        clear hS
        go_simp
        try with_reducible rfl
      try simp only [Act.put, List.getElem_toArray, List.getElem_cons_succ, List.getElem_cons_zero, List.setIfInBounds_toArray, List.set_cons_succ, List.set_cons_zero]
      apply takeH (i := 7) 169 rfl (by kernel_rfl) (by kernel_rfl) (by kernel_rfl) (fun _ _ _ h => h) rfl (by first | exact M.out | exact M.out.take 7)
      case' hy =>
        refine Or.inl ⟨by first | rfl | (go_simp; done), ?_⟩
        intro w hS
        clear hS
        go_simp
        try with_reducible rfl
      try simp only [Act.put, List.getElem_toArray, List.getElem_cons_succ, List.getElem_cons_zero, List.setIfInBounds_toArray, List.set_cons_succ, List.set_cons_zero]
      apply takeH (i := 8) 170 rfl (by kernel_rfl) (by kernel_rfl) (by kernel_rfl) (fun _ _ _ h => h) rfl (by first | exact M.out | exact M.out.take 7)
      case' hy =>
        refine Or.inl ⟨by first | rfl | (go_simp; done), ?_⟩
        intro w hS
        clear hS
        go_simp
        try with_reducible rfl
      try simp only [Act.put, List.getElem_toArray, List.getElem_cons_succ, List.getElem_cons_zero, List.setIfInBounds_toArray, List.set_cons_succ, List.set_cons_zero]
      apply takeH (i := 9) 24 rfl (by kernel_rfl) (by kernel_rfl) (by kernel_rfl) (fun _ _ _ h => h) rfl (by first | exact M.out | exact M.out.take 7)
      case' hy =>
        refine Or.inl ⟨by first | rfl | (go_simp; done), ?_⟩
        intro w hS
        clear hS
        go_simp
        try with_reducible rfl
      try simp only [Act.put, List.getElem_toArray, List.getElem_cons_succ, List.getElem_cons_zero, List.setIfInBounds_toArray, List.set_cons_succ, List.set_cons_zero]
      apply takeH (i := 10) 25 rfl (by kernel_rfl) (by kernel_rfl) (by kernel_rfl) (fun _ _ _ h => h) rfl (by first | exact M.out | exact M.out.take 7)
      case' hy =>
        refine Or.inl ⟨by first | rfl | (go_simp; done), ?_⟩
        intro w hS
        clear hS
        go_simp
        try with_reducible rfl
      try simp only [Act.put, List.getElem_toArray, List.getElem_cons_succ, List.getElem_cons_zero, List.setIfInBounds_toArray, List.set_cons_succ, List.set_cons_zero]
      refine wpAnyH_done (by kernel_rfl) ?_ _
      go_wp2
      refine region_anyH (fun w' => Mem w w' [.blk g5 29 F.cells, .blk g6 31 (ints .i16 fs), .row (.slice (some ⟨xb, xo, none⟩) xs.length cp) 48 6 xs.length (flat Flock.vals xs), .row (.slice A12 vs.length c12) 51 3 vs.length (flat Visit.vals vs), .blk g11 29 G.cells, .row (.slice (some ⟨eb, eo, none⟩) E.length c18) 2 1 E.length (flat oneI E), .row (.slice A20 H.length c20) 2 1 H.length (flat oneI H)]) (by kernel_rfl) ?_
      have m := M.out.drew
      clear M
      have M := Lib.hid m
      clear m
      apply takeH (i := 0) 171 rfl (by kernel_rfl) (by kernel_rfl) (by kernel_rfl) (fun _ _ _ h => h) rfl (by first | exact M.out | exact M.out.take 7)
      case' hy =>
        refine Or.inl ⟨by first | rfl | (go_simp; done), ?_⟩
        intro w hS
        clear hS
        go_simp
        try with_reducible rfl
      try simp only [Act.put, List.getElem_toArray, List.getElem_cons_succ, List.getElem_cons_zero, List.setIfInBounds_toArray, List.set_cons_succ, List.set_cons_zero]
      apply takeH (i := 1) 172 rfl (by kernel_rfl) (by kernel_rfl) (by kernel_rfl) (fun _ _ _ h => h) rfl (by first | exact M.out | exact M.out.take 7)
      case' hy =>
        refine Or.inl ⟨by first | rfl | (go_simp; done), ?_⟩
        intro w hS
        clear hS
        go_simp
        try with_reducible rfl
      try simp only [Act.put, List.getElem_toArray, List.getElem_cons_succ, List.getElem_cons_zero, List.setIfInBounds_toArray, List.set_cons_succ, List.set_cons_zero]
      apply takeH (i := 2) 173 rfl (by kernel_rfl) (by kernel_rfl) (by kernel_rfl) (fun _ _ _ h => h) rfl (by first | exact M.out | exact M.out.take 7)
      case' hy =>
        refine Or.inl ⟨by first | rfl | (go_simp; done), ?_⟩
        intro w hS
        clear hS
        go_simp
        try with_reducible rfl
      try simp only [Act.put, List.getElem_toArray, List.getElem_cons_succ, List.getElem_cons_zero, List.setIfInBounds_toArray, List.set_cons_succ, List.set_cons_zero]
      apply takeH (i := 3) 174 rfl (by kernel_rfl) (by kernel_rfl) (by kernel_rfl) (fun _ _ _ h => h) rfl (by first | exact M.out | exact M.out.take 7)
      case' hy =>
        refine Or.inl ⟨by first | rfl | (go_simp; done), ?_⟩
        intro w hS
        clear hS
        go_simp
        try with_reducible rfl
      try simp only [Act.put, List.getElem_toArray, List.getElem_cons_succ, List.getElem_cons_zero, List.setIfInBounds_toArray, List.set_cons_succ, List.set_cons_zero]
      apply takeH (i := 4) 175 rfl (by kernel_rfl) (by kernel_rfl) (by kernel_rfl) (fun _ _ _ h => h) rfl (by first | exact M.out | exact M.out.take 7)
      case' hy =>
        refine Or.inl ⟨by first | rfl | (go_simp; done), ?_⟩
        intro w hS
        clear hS
        go_simp
        try with_reducible rfl
      try simp only [Act.put, List.getElem_toArray, List.getElem_cons_succ, List.getElem_cons_zero, List.setIfInBounds_toArray, List.set_cons_succ, List.set_cons_zero]
      apply takeH (i := 5) 176 rfl (by kernel_rfl) (by kernel_rfl) (by kernel_rfl) (fun _ _ _ h => h) rfl (by first | exact M.out | exact M.out.take 7)
      case' hy =>
        refine Or.inl ⟨by first | rfl | (go_simp; done), ?_⟩
        intro w hS
        clear hS
        go_simp
        try with_reducible rfl
      try simp only [Act.put, List.getElem_toArray, List.getElem_cons_succ, List.getElem_cons_zero, List.setIfInBounds_toArray, List.set_cons_succ, List.set_cons_zero]
      apply takeH (i := 6) 177 rfl (by kernel_rfl) (by kernel_rfl) (by kernel_rfl) (fun _ _ _ h => h) rfl (by first | exact M.out | exact M.out.take 7)
      case' hy =>
        refine Or.inl ⟨by first | rfl | (go_simp; done), ?_⟩
        intro w hS
        clear hS
        go_simp
        try with_reducible rfl
      try simp only [Act.put, List.getElem_toArray, List.getElem_cons_succ, List.getElem_cons_zero, List.setIfInBounds_toArray, List.set_cons_succ, List.set_cons_zero]
      apply takeH (i := 7) 178 rfl (by kernel_rfl) (by kernel_rfl) (by kernel_rfl) (fun _ _ _ h => h) rfl (by first | exact M.out | exact M.out.take 7)
      case' hy =>
        refine Or.inl ⟨by first | rfl | (go_simp; done), ?_⟩
        intro w hS
        clear hS
        go_simp
        try with_reducible rfl
      try simp only [Act.put, List.getElem_toArray, List.getElem_cons_succ, List.getElem_cons_zero, List.setIfInBounds_toArray, List.set_cons_succ, List.set_cons_zero]
      apply takeH (i := 8) 179 rfl (by kernel_rfl) (by kernel_rfl) (by kernel_rfl) (fun _ _ _ h => h) rfl (by first | exact M.out | exact M.out.take 7)
      case' hy => exact yldsW _ _ rfl (by first | rfl | (go_simp; done)) Try.underlying26 rfl rfl (fun w' hS => range_at Flock.vl (sl_rangeFlock (hS.slof 2 rfl) hlt) HXK.out 1 _ rfl)
      try simp only [Act.put, List.getElem_toArray, List.getElem_cons_succ, List.getElem_cons_zero, List.setIfInBounds_toArray, List.set_cons_succ, List.set_cons_zero]
      apply takeH (i := 9) 180 rfl (by kernel_rfl) (by kernel_rfl) (by kernel_rfl) (fun _ _ _ h => h) rfl (by first | exact M.out | exact M.out.take 7)
      case' hy =>
        refine Or.inl ⟨by first | rfl | (go_simp; done), ?_⟩
        intro w hS
        clear hS
        go_simp
        try with_reducible rfl
      try simp only [Act.put, List.getElem_toArray, List.getElem_cons_succ, List.getElem_cons_zero, List.setIfInBounds_toArray, List.set_cons_succ, List.set_cons_zero]
      apply takeH (i := 10) 181 rfl (by kernel_rfl) (by kernel_rfl) (by kernel_rfl) (fun _ _ _ h => h) rfl (by first | exact M.out | exact M.out.take 7)
      case' hy =>
        refine Or.inl ⟨by first | rfl | (go_simp; done), ?_⟩
        intro w hS
        clear hS
        go_simp
        try with_reducible rfl
      try simp only [Act.put, List.getElem_toArray, List.getElem_cons_succ, List.getElem_cons_zero, List.setIfInBounds_toArray, List.set_cons_succ, List.set_cons_zero]
      apply takeH (i := 11) 182 rfl (by kernel_rfl) (by kernel_rfl) (by kernel_rfl) (fun _ _ _ h => h) rfl (by first | exact M.out | exact M.out.take 7)
      case' hy =>
        refine Or.inl ⟨by first | rfl | (go_simp; done), ?_⟩
        intro w hS
        clear hS
        go_simp
        try with_reducible rfl
      try simp only [Act.put, List.getElem_toArray, List.getElem_cons_succ, List.getElem_cons_zero, List.setIfInBounds_toArray, List.set_cons_succ, List.set_cons_zero]
      apply takeH (i := 12) 183 rfl (by kernel_rfl) (by kernel_rfl) (by kernel_rfl) (fun _ _ _ h => h) rfl (by first | exact M.out | exact M.out.take 7)
      case' hy =>
        refine Or.inl ⟨by first | rfl | (go_simp; done), ?_⟩
        intro w hS
        clear hS
        go_simp
        try with_reducible rfl
      try simp only [Act.put, List.getElem_toArray, List.getElem_cons_succ, List.getElem_cons_zero, List.setIfInBounds_toArray, List.set_cons_succ, List.set_cons_zero]
      apply takeH (i := 13) 184 rfl (by kernel_rfl) (by kernel_rfl) (by kernel_rfl) (fun _ _ _ h => h) rfl (by first | exact M.out | exact M.out.take 7)
      case' hy =>
        refine Or.inl ⟨by first | rfl | (go_simp; done), ?_⟩
        intro w hS
        clear hS
        go_simp
        try with_reducible rfl
      try simp only [Act.put, List.getElem_toArray, List.getElem_cons_succ, List.getElem_cons_zero, List.setIfInBounds_toArray, List.set_cons_succ, List.set_cons_zero]
      apply takeH (i := 14) 185 rfl (by kernel_rfl) (by kernel_rfl) (by kernel_rfl) (fun _ _ _ h => h) rfl (by first | exact M.out | exact M.out.take 7)
      case' hy => exact yldsW _ _ rfl (by first | rfl | (go_simp; done)) Try.underlying26 rfl rfl (fun w' hS => range_at Flock.vl (sl_rangeFlock (hS.slof 2 rfl) hlt) HXK.out 2 _ rfl)
      try simp only [Act.put, List.getElem_toArray, List.getElem_cons_succ, List.getElem_cons_zero, List.setIfInBounds_toArray, List.set_cons_succ, List.set_cons_zero]
      apply takeH (i := 15) 186 rfl (by kernel_rfl) (by kernel_rfl) (by kernel_rfl) (fun _ _ _ h => h) rfl (by first | exact M.out | exact M.out.take 7)
      case' hy =>
        refine Or.inl ⟨by first | rfl | (go_simp; done), ?_⟩
        intro w hS
        clear hS
        go_simp
        try with_reducible rfl
      try simp only [Act.put, List.getElem_toArray, List.getElem_cons_succ, List.getElem_cons_zero, List.setIfInBounds_toArray, List.set_cons_succ, List.set_cons_zero]
      apply takeH (i := 16) 187 rfl (by kernel_rfl) (by kernel_rfl) (by kernel_rfl) (fun _ _ _ h => h) rfl (by first | exact M.out | exact M.out.take 7)
      case' hy =>
        refine Or.inl ⟨by first | rfl | (go_simp; done), ?_⟩
        intro w hS
        clear hS
        go_simp
        try with_reducible rfl
      try simp only [Act.put, List.getElem_toArray, List.getElem_cons_succ, List.getElem_cons_zero, List.setIfInBounds_toArray, List.set_cons_succ, List.set_cons_zero]
      apply takeH (i := 17) 188 rfl (by kernel_rfl) (by kernel_rfl) (by kernel_rfl) (fun _ _ _ h => h) rfl (by first | exact M.out | exact M.out.take 7)
      case' hy =>
        refine Or.inl ⟨by first | rfl | (go_simp; done), ?_⟩
        intro w hS
        clear hS
        go_simp
        try with_reducible rfl
      try simp only [Act.put, List.getElem_toArray, List.getElem_cons_succ, List.getElem_cons_zero, List.setIfInBounds_toArray, List.set_cons_succ, List.set_cons_zero]
      apply takeH (i := 18) 189 rfl (by kernel_rfl) (by kernel_rfl) (by kernel_rfl) (fun _ _ _ h => h) rfl (by first | exact M.out | exact M.out.take 7)
      case' hy =>
        refine Or.inl ⟨by first | rfl | (go_simp; done), ?_⟩
        intro w hS
        clear hS
        go_simp
        try with_reducible rfl
      try simp only [Act.put, List.getElem_toArray, List.getElem_cons_succ, List.getElem_cons_zero, List.setIfInBounds_toArray, List.set_cons_succ, List.set_cons_zero]
      apply takeH (i := 19) 190 rfl (by kernel_rfl) (by kernel_rfl) (by kernel_rfl) (fun _ _ _ h => h) rfl (by first | exact M.out | exact M.out.take 7)
      case' hy =>
        refine Or.inl ⟨by first | rfl | (go_simp; done), ?_⟩
        intro w hS
        clear hS
        go_simp
        try with_reducible rfl
      try simp only [Act.put, List.getElem_toArray, List.getElem_cons_succ, List.getElem_cons_zero, List.setIfInBounds_toArray, List.set_cons_succ, List.set_cons_zero]
      apply takeH (i := 20) 191 rfl (by kernel_rfl) (by kernel_rfl) (by kernel_rfl) (fun _ _ _ h => h) rfl (by first | exact M.out | exact M.out.take 7)
      case' hy =>
        refine Or.inl ⟨by first | rfl | (go_simp; done), ?_⟩
        intro w hS
        clear hS
        go_simp
        try with_reducible rfl
      try simp only [Act.put, List.getElem_toArray, List.getElem_cons_succ, List.getElem_cons_zero, List.setIfInBounds_toArray, List.set_cons_succ, List.set_cons_zero]
      apply takeH (i := 21) 192 rfl (by kernel_rfl) (by kernel_rfl) (by kernel_rfl) (fun _ _ _ h => h) rfl (by first | exact M.out | exact M.out.take 7)
      case' hy =>
        refine Or.inl ⟨by first | rfl | (go_simp; done), ?_⟩
        intro w hS
        clear hS
        go_simp
        try with_reducible rfl
      try simp only [Act.put, List.getElem_toArray, List.getElem_cons_succ, List.getElem_cons_zero, List.setIfInBounds_toArray, List.set_cons_succ, List.set_cons_zero]
      apply takeH (i := 22) 193 rfl (by kernel_rfl) (by kernel_rfl) (by kernel_rfl) (fun _ _ _ h => h) rfl (by first | exact M.out | exact M.out.take 7)
      case' hy =>
        refine Or.inl ⟨by first | rfl | (go_simp; done), ?_⟩
        intro w hS
        clear hS
        go_simp
        try with_reducible rfl
      try simp only [Act.put, List.getElem_toArray, List.getElem_cons_succ, List.getElem_cons_zero, List.setIfInBounds_toArray, List.set_cons_succ, List.set_cons_zero]
      apply takeH (i := 23) 194 rfl (by kernel_rfl) (by kernel_rfl) (by kernel_rfl) (fun _ _ _ h => h) rfl (by first | exact M.out | exact M.out.take 7)
      case' hy => exact yldsW _ _ rfl (by first | rfl | (go_simp; done)) Try.underlying2 rfl rfl (fun w' hS => (hS.slof 5 rfl).atF HEK.out)
      try simp only [Act.put, List.getElem_toArray, List.getElem_cons_succ, List.getElem_cons_zero, List.setIfInBounds_toArray, List.set_cons_succ, List.set_cons_zero]
      apply takeH (i := 24) 195 rfl (by kernel_rfl) (by kernel_rfl) (by kernel_rfl) (fun _ _ _ h => h) rfl (by first | exact M.out | exact M.out.take 7)
      case' hy =>
        refine Or.inl ⟨by first | rfl | (go_simp; done), ?_⟩
        intro w hS
        clear hS
        go_simp
        try with_reducible rfl
      try simp only [Act.put, List.getElem_toArray, List.getElem_cons_succ, List.getElem_cons_zero, List.setIfInBounds_toArray, List.set_cons_succ, List.set_cons_zero]
      apply takeH (i := 25) 196 rfl (by kernel_rfl) (by kernel_rfl) (by kernel_rfl) (fun _ _ _ h => h) rfl (by first | exact M.out | exact M.out.take 7)
      case' hy =>
        refine Or.inl ⟨by first | rfl | (go_simp; done), ?_⟩
        intro w hS
        clear hS
        go_simp
        try with_reducible rfl
      try simp only [Act.put, List.getElem_toArray, List.getElem_cons_succ, List.getElem_cons_zero, List.setIfInBounds_toArray, List.set_cons_succ, List.set_cons_zero]
      apply takeH (i := 26) 197 rfl (by kernel_rfl) (by kernel_rfl) (by kernel_rfl) (fun _ _ _ h => h) rfl (by first | exact M.out | exact M.out.take 7)
      case' hy =>
        refine Or.inl ⟨by first | rfl | (go_simp; done), ?_⟩
        intro w hS
        clear hS
        go_simp
        try with_reducible rfl
      try simp only [Act.put, List.getElem_toArray, List.getElem_cons_succ, List.getElem_cons_zero, List.setIfInBounds_toArray, List.set_cons_succ, List.set_cons_zero]
      apply takeH (i := 27) 198 rfl (by kernel_rfl) (by kernel_rfl) (by kernel_rfl) (fun _ _ _ h => h) rfl (by first | exact M.out | exact M.out.take 7)
      case' hy =>
        refine Or.inl ⟨by first | rfl | (go_simp; done), ?_⟩
        intro w hS
        clear hS
        go_simp
        try with_reducible rfl
      try simp only [Act.put, List.getElem_toArray, List.getElem_cons_succ, List.getElem_cons_zero, List.setIfInBounds_toArray, List.set_cons_succ, List.set_cons_zero]
      apply takeH (i := 28) 199 rfl (by kernel_rfl) (by kernel_rfl) (by kernel_rfl) (fun _ _ _ h => h) rfl (by first | exact M.out | exact M.out.take 7)
      case' hy =>
        refine Or.inl ⟨by first | rfl | (go_simp; done), ?_⟩
        intro w hS
        clear hS
        go_simp
        try with_reducible rfl
      try simp only [Act.put, List.getElem_toArray, List.getElem_cons_succ, List.getElem_cons_zero, List.setIfInBounds_toArray, List.set_cons_succ, List.set_cons_zero]
      apply takeH (i := 29) 200 rfl (by kernel_rfl) (by kernel_rfl) (by kernel_rfl) (fun _ _ _ h => h) rfl (by first | exact M.out | exact M.out.take 7)
      case' hy =>
        refine Or.inl ⟨by first | rfl | (go_simp; done), ?_⟩
        intro w hS
        clear hS
        go_simp
        try with_reducible rfl
      try simp only [Act.put, List.getElem_toArray, List.getElem_cons_succ, List.getElem_cons_zero, List.setIfInBounds_toArray, List.set_cons_succ, List.set_cons_zero]
      apply takeH (i := 30) 201 rfl (by kernel_rfl) (by kernel_rfl) (by kernel_rfl) (fun _ _ _ h => h) rfl (by first | exact M.out | exact M.out.take 7)
      case' hy => exact yldsW _ _ rfl (by first | rfl | (go_simp; done)) Try.underlying2 rfl rfl (fun w' hS => (hS.slof 5 rfl).atF HEK.out)
      try simp only [Act.put, List.getElem_toArray, List.getElem_cons_succ, List.getElem_cons_zero, List.setIfInBounds_toArray, List.set_cons_succ, List.set_cons_zero]
      apply takeH (i := 31) 202 rfl (by kernel_rfl) (by kernel_rfl) (by kernel_rfl) (fun _ _ _ h => h) rfl (by first | exact M.out | exact M.out.take 7)
      case' hy =>
        refine Or.inl ⟨by first | rfl | (go_simp; done), ?_⟩
        intro w hS
        clear hS
        go_simp
        try with_reducible rfl
      try simp only [Act.put, List.getElem_toArray, List.getElem_cons_succ, List.getElem_cons_zero, List.setIfInBounds_toArray, List.set_cons_succ, List.set_cons_zero]
      apply takeH (i := 32) 203 rfl (by kernel_rfl) (by kernel_rfl) (by kernel_rfl) (fun _ _ _ h => h) rfl (by first | exact M.out | exact M.out.take 7)
      case' hy =>
        refine Or.inl ⟨by first | rfl | (go_simp; done), ?_⟩
        intro w hS
        clear hS
        go_simp
        try with_reducible rfl
      try simp only [Act.put, List.getElem_toArray, List.getElem_cons_succ, List.getElem_cons_zero, List.setIfInBounds_toArray, List.set_cons_succ, List.set_cons_zero]
      apply takeH (i := 33) 204 rfl (by kernel_rfl) (by kernel_rfl) (by kernel_rfl) (fun _ _ _ h => h) rfl (by first | exact M.out | exact M.out.take 7)
      case' hy =>
        refine Or.inl ⟨by first | rfl | (go_simp; done), ?_⟩
        intro w hS
        clear hS
        go_simp
        try with_reducible rfl
      try simp only [Act.put, List.getElem_toArray, List.getElem_cons_succ, List.getElem_cons_zero, List.setIfInBounds_toArray, List.set_cons_succ, List.set_cons_zero]
      apply takeH (i := 34) 205 rfl (by kernel_rfl) (by kernel_rfl) (by kernel_rfl) (fun _ _ _ h => h) rfl (by first | exact M.out | exact M.out.take 7)
      case' hy =>
        refine Or.inl ⟨by first | rfl | (go_simp; done), ?_⟩
        intro w hS
        clear hS
        go_simp
        try with_reducible rfl
      try simp only [Act.put, List.getElem_toArray, List.getElem_cons_succ, List.getElem_cons_zero, List.setIfInBounds_toArray, List.set_cons_succ, List.set_cons_zero]
      apply takeH (i := 35) 206 rfl (by kernel_rfl) (by kernel_rfl) (by kernel_rfl) (fun _ _ _ h => h) rfl (by first | exact M.out | exact M.out.take 7)
      case' hy =>
        refine Or.inl ⟨by first | rfl | (go_simp; done), ?_⟩
        intro w hS
        clear hS
        go_simp
        try with_reducible rfl
      try simp only [Act.put, List.getElem_toArray, List.getElem_cons_succ, List.getElem_cons_zero, List.setIfInBounds_toArray, List.set_cons_succ, List.set_cons_zero]
      apply takeH (i := 36) 207 rfl (by kernel_rfl) (by kernel_rfl) (by kernel_rfl) (fun _ _ _ h => h) rfl (by first | exact M.out | exact M.out.take 7)
      case' hy =>
        refine Or.inl ⟨by first | rfl | (go_simp; done), ?_⟩
        intro w hS
        clear hS
        go_simp
        try with_reducible rfl
      try simp only [Act.put, List.getElem_toArray, List.getElem_cons_succ, List.getElem_cons_zero, List.setIfInBounds_toArray, List.set_cons_succ, List.set_cons_zero]
      apply takeH (i := 38) 209 rfl (by kernel_rfl) (by kernel_rfl) (by kernel_rfl) (fun _ _ _ h => h) rfl (by first | exact M.out | exact M.out.take 7)
      case' hy =>
        refine Or.inl ⟨by first | rfl | (go_simp; done), ?_⟩
        intro w hS
        clear hS
        go_simp
        try with_reducible rfl
      try simp only [Act.put, List.getElem_toArray, List.getElem_cons_succ, List.getElem_cons_zero, List.setIfInBounds_toArray, List.set_cons_succ, List.set_cons_zero]
      apply takeH (i := 39) 210 rfl (by kernel_rfl) (by kernel_rfl) (by kernel_rfl) (fun _ _ _ h => h) rfl (by first | exact M.out | exact M.out.take 7)
      case' hy =>
        refine Or.inl ⟨by first | rfl | (go_simp; done), ?_⟩
        intro w hS
        clear hS
        go_simp
        try with_reducible rfl
      try simp only [Act.put, List.getElem_toArray, List.getElem_cons_succ, List.getElem_cons_zero, List.setIfInBounds_toArray, List.set_cons_succ, List.set_cons_zero]
      apply takeH (i := 40) 211 rfl (by kernel_rfl) (by kernel_rfl) (by kernel_rfl) (fun _ _ _ h => h) rfl (by first | exact M.out | exact M.out.take 7)
      case' hy =>
        refine Or.inl ⟨by first | rfl | (go_simp; done), ?_⟩
        intro w hS
        clear hS
        go_simp
        try with_reducible rfl
      try simp only [Act.put, List.getElem_toArray, List.getElem_cons_succ, List.getElem_cons_zero, List.setIfInBounds_toArray, List.set_cons_succ, List.set_cons_zero]
      apply takeH (i := 41) 212 rfl (by kernel_rfl) (by kernel_rfl) (by kernel_rfl) (fun _ _ _ h => h) rfl (by first | exact M.out | exact M.out.take 7)
      case' hy => exact yldsW _ _ rfl (by first | rfl | (go_simp; done)) Try.underlying2 rfl rfl (fun w' hS => (hS.slof 5 rfl).atF HEK.out)
      try simp only [Act.put, List.getElem_toArray, List.getElem_cons_succ, List.getElem_cons_zero, List.setIfInBounds_toArray, List.set_cons_succ, List.set_cons_zero]
      apply takeH (i := 42) 213 rfl (by kernel_rfl) (by kernel_rfl) (by kernel_rfl) (fun _ _ _ h => h) rfl (by first | exact M.out | exact M.out.take 7)
      case' hy =>
        refine Or.inl ⟨by first | rfl | (go_simp; done), ?_⟩
        intro w hS
        clear hS
        go_simp
        try with_reducible rfl
      try simp only [Act.put, List.getElem_toArray, List.getElem_cons_succ, List.getElem_cons_zero, List.setIfInBounds_toArray, List.set_cons_succ, List.set_cons_zero]
      apply takeH (i := 43) 214 rfl (by kernel_rfl) (by kernel_rfl) (by kernel_rfl) (fun _ _ _ h => h) rfl (by first | exact M.out | exact M.out.take 7)
      case' hy =>
        refine Or.inl ⟨by first | rfl | (go_simp; done), ?_⟩
        intro w hS
        clear hS
        go_simp
        try with_reducible rfl
      try simp only [Act.put, List.getElem_toArray, List.getElem_cons_succ, List.getElem_cons_zero, List.setIfInBounds_toArray, List.set_cons_succ, List.set_cons_zero]
      refine any1H 37 (by kernel_rfl) rfl (fun K hK => ?_)
      go_wp2_with (first | (go_at_call 16; go_must (refine (A2Has_any _ _ H hl12 (k : Int) _ (M.out.slof 6 rfl)).mono ?_); rintro e w_ ⟨rfl, rfl⟩; rw [HHS.out]))
      refine onward_normal (hK _ _ ⟨(by first | exact M.out | exact M.out.take 7), ?_⟩)
      clear hK K
      try simp only [Act.put, List.getElem_toArray, List.getElem_cons_succ, List.getElem_cons_zero, List.setIfInBounds_toArray, List.set_cons_succ, List.set_cons_zero]
      apply takeH (i := 44) 215 rfl (by kernel_rfl) (by kernel_rfl) (by kernel_rfl) (fun _ _ _ h => h) rfl (by first | exact M.out | exact M.out.take 7)
      case' hy =>
        refine Or.inl ⟨by first | rfl | (go_simp; done), ?_⟩
        intro w hS
        clear hS
        go_simp
        try with_reducible rfl
      try simp only [Act.put, List.getElem_toArray, List.getElem_cons_succ, List.getElem_cons_zero, List.setIfInBounds_toArray, List.set_cons_succ, List.set_cons_zero]
      apply takeH (i := 45) 216 rfl (by kernel_rfl) (by kernel_rfl) (by kernel_rfl) (fun _ _ _ h => h) rfl (by first | exact M.out | exact M.out.take 7)
      case' hy =>
        refine Or.inl ⟨by first | rfl | (go_simp; done), ?_⟩
        intro w hS
        clear hS
        go_simp
        try with_reducible rfl
      try simp only [Act.put, List.getElem_toArray, List.getElem_cons_succ, List.getElem_cons_zero, List.setIfInBounds_toArray, List.set_cons_succ, List.set_cons_zero]
      refine wpAnyH_done (by kernel_rfl) ?_ _
      all_goals
        have x1 := (M.out.slof 5 rfl).atF HEK.out
        go_wp2
        exact ⟨⟨k + 1, by omega, by go_num, by rw [E1.out], M.out⟩, by simp [intOf]; try omega⟩
    · as_aux_lemma =>
      obtain rfl : k = xs.length := by omega
      have i1 : ¬ ((xs.length : Int) < (xs.length : Int)) := by omega
      rw [C.out.say.es]
      clear hlt
      go_wp2_with (first
        | ((with_reducible refine gate_dst (N := 223) rfl ?_); go_must (refine M.out.ev_ldw 0 _ _ rfl rfl rfl Try.underlying29 rfl (by rw [S1.out]; exact sz29) rfl ?_))
        | ((with_reducible refine gate_dst (N := 26) rfl ?_); go_must (refine M.out.ev_new rfl (by first | (go_simp; done) | (go_simp; rfl)) ?_); intro g26 w26 m; simp only [List.cons_append, List.nil_append] at m; have M := Lib.hid m; clear m)
        | ((with_reducible refine gate_store (x := .tmp 26) rfl ?_); go_must (refine M.out.ev_stw 7 _ _ _ rfl rfl rfl rfl _ rfl (by rw [S1.out]; exact szZ) (by rw [S1.out]; exact sz29) (Fld.one _) rfl ?_); intro wn m; simp only [List.set_cons_zero, List.set_cons_succ] at m; have M := Lib.hid m; clear m)
        )
      go_loopw [27] (fun v wr => ∃ k : Nat, k ≤ vs.length ∧ v = .int .i64 k ∧ Mem w wr [.blk g5 29 F.cells, .blk g6 31 (ints .i16 fs), .row (.slice (some ⟨xb, xo, none⟩) xs.length cp) 48 6 xs.length (flat Flock.vals xs), .row (.slice A12 vs.length c12) 51 3 vs.length (flat Visit.vals vs), .blk g11 29 G.cells, .blk g26 29 (nowAt F vs k).cells])
        (fun v _ => vs.length - (intOf v).toNat)
      case atStart => exact ⟨0, by omega, rfl, M.out.only [0, 1, 2, 3, 4, 7] (K := [_, _, _, _, _, _]) rfl (by decide)⟩
      case round =>
        clear M
        obtain ⟨k, hk, rfl, m⟩ := hrel
        have M := Lib.hid m
        clear m
        by_cases hlt : k < vs.length
        · as_aux_lemma =>
          obtain ⟨i, c, q, x, hv, hxi, hil, hc, hh, hq1, hq2, hs1, hbo, hnx, hok, hpr⟩ := visit_at C.out.say.ch WF.out.ok WF.out.valid hlt
          have HVK := Lib.hid hv
          have HXI := Lib.hid hxi
          have HHC := Lib.hid hh
          have HNX := Lib.hid hnx
          have HOK := Lib.hid hok
          have HPR := Lib.hid hpr
          have KF := Lib.hid (show (ints .i16 fs)[c]? = some (.int .i16 (gi fs c)) from ints_at (by rw [AF.out.len]; omega))
          have KN := Lib.hid (Fld.cellS hok.toLen hc)
          have HST := Lib.hid (Fld.setSeed hok.toLen c ((nowAt F vs k).seed c - q))
          have SZN := Lib.hid (show 102 + c < (nowAt F vs k).cells.size by rw [Fld.size hok.toLen]; omega)
          obtain ⟨vb, vo, rfl, _⟩ := (M.out.slof 3 rfl).2 (by omega)
          obtain ⟨N, hN⟩ : ∃ N, N = nowAt F vs k := ⟨_, rfl⟩
          rw [← hN] at M HNX HOK KN HST SZN hq2 hs1
          obtain ⟨sd, hsd⟩ : ∃ sd, sd = N.seed c := ⟨_, rfl⟩
          rw [← hsd] at HNX KN HST hq2 hs1
          obtain ⟨fc, hfc⟩ : ∃ fc, fc = gi fs c := ⟨_, rfl⟩
          rw [← hfc] at KF hbo
          have KK := Lib.hid hlt
          clear hv hxi hh hnx hok hpr hN hsd hfc
          have d1 : decide ((i : Int) < 0) = false := decide_eq_false (by omega)
          have d2 : decide (xs.length ≤ i) = false := decide_eq_false (by omega)
          have d4 : decide (q < 1) = false := decide_eq_false (by omega)
          have d5 : decide (sd < q) = false := decide_eq_false (by omega)
          have d6 : decide (x.bold < fc) = false := decide_eq_false (by omega)
          have e1 : IntKind.i64.wrap (i : Int) = (i : Int) := IntWalk.i64_in _ (by omega)
          have e3 : IntKind.i64.wrap (c : Int) = (c : Int) := IntWalk.i64_in _ (by omega)
          have e4 : IntKind.i16.wrap (sd - q) = sd - q := IntWalk.i16_in _ (by omega)
          have a0 : (0 : Int) ≤ (i : Int) := by omega
          have a1 : (i : Int) < (xs.length : Int) := by omega
          have a2 : (0 : Int) ≤ (c : Int) := by omega
          have a3 : (c : Int) < 100 := by omega
          have b0 : (0 : Int) ≤ (k : Int) := by omega
          have b1 : (k : Int) < (vs.length : Int) := by omega
          go_wp2_with (first
            | ((with_reducible refine gate_dst (N := 233) rfl ?_); go_must (refine ev_ldr _ _ rfl rfl (show World.rangeAt _ vb (vo + k * 3) [.int .i8 i, .int .i16 c, .int .i16 q] from range_at Visit.vl (sl_rangeVisit (M.out.slof 3 rfl) KK.out) HVK.out) Try.underlying51 rfl sz51 rfl ?_))
            | ((with_reducible refine gate_dst (N := 28) rfl ?_); go_must (refine M.out.ev_new rfl (by first | (go_simp; done) | (go_simp; rfl)) ?_); intro g28 w28 m; simp only [List.cons_append, List.nil_append] at m; have M := Lib.hid m; clear m)
            | ((with_reducible refine gate_store (x := .tmp 28) rfl ?_); go_must (refine M.out.ev_stw 6 _ _ _ rfl rfl rfl rfl _ rfl rfl sz51 (by simp [Value.oneCell']) rfl ?_); intro wn m; simp only [List.set_cons_zero, List.set_cons_succ] at m; have M := Lib.hid m; clear m)
            )
          by_cases hk0 : 0 < k
          · as_aux_lemma =>
            obtain ⟨p, hp, hpi⟩ := HPR.out hk0
            have HPK := Lib.hid hp
            have HKP := Lib.hid (show k - 1 < vs.length by omega)
            have e2 : IntKind.i64.wrap ((k : Int) - 1) = ((k - 1 : Nat) : Int) := by rw [show (k : Int) - 1 = ((k - 1 : Nat) : Int) by omega]; exact IntWalk.i64_in _ (by omega)
            have b2 : (0 : Int) ≤ ((k - 1 : Nat) : Int) := by omega
            have b3 : ((k - 1 : Nat) : Int) < (vs.length : Int) := by omega
            have d3 : decide (0 < k) = true := decide_eq_true hk0
            obtain ⟨pf, hpf⟩ : ∃ pf, pf = p.flock := ⟨_, rfl⟩
            rw [← hpf] at hpi
            have d7 : decide ((i : Int) < pf) = false := decide_eq_false (by omega)
            have HPK := Lib.hid (show vs[k - 1]? = some ⟨pf, p.cell, p.seeds⟩ by rw [hp, hpf])
            clear hp hpf hpi
            go_wp2
            refine region_anyH (fun w' => Mem w w' [.blk g5 29 F.cells, .blk g6 31 (ints .i16 fs), .row (.slice (some ⟨xb, xo, none⟩) xs.length cp) 48 6 xs.length (flat Flock.vals xs), .row (.slice (some ⟨vb, vo, none⟩) vs.length c12) 51 3 vs.length (flat Visit.vals vs), .blk g11 29 G.cells, .blk g26 29 N.cells, .blk g28 51 #[.int .i8 i, .int .i16 c, .int .i16 q]]) (by kernel_rfl) ?_
            have m := M.out.drew
            clear M
            have M := Lib.hid m
            clear m
            apply takeH (i := 0) 234 rfl (by kernel_rfl) (by kernel_rfl) (by kernel_rfl) (fun _ _ _ h => h) rfl (by first | exact M.out | exact M.out.take 7)
            case' hy =>
              refine Or.inl ⟨by first | rfl | (go_simp; done), ?_⟩
              intro w hS
              clear hS
              go_simp
              try with_reducible rfl
            try simp only [Act.put, List.getElem_toArray, List.getElem_cons_succ, List.getElem_cons_zero, List.setIfInBounds_toArray, List.set_cons_succ, List.set_cons_zero]
            apply takeH (i := 1) 235 rfl (by kernel_rfl) (by kernel_rfl) (by kernel_rfl) (fun _ _ _ h => h) rfl (by first | exact M.out | exact M.out.take 7)
            case' hy => exact ylds _ _ rfl rfl Try.underlying24 rfl rfl (fun w' hS => hS.cell 6 rfl (by first | assumption | rfl))
            try simp only [Act.put, List.getElem_toArray, List.getElem_cons_succ, List.getElem_cons_zero, List.setIfInBounds_toArray, List.set_cons_succ, List.set_cons_zero]
            apply takeH (i := 2) 236 rfl (by kernel_rfl) (by kernel_rfl) (by kernel_rfl) (fun _ _ _ h => h) rfl (by first | exact M.out | exact M.out.take 7)
            case' hy =>
              refine Or.inl ⟨by first | rfl | (go_simp; done), ?_⟩
              intro w hS
              clear hS
              go_simp
              try with_reducible rfl
            try simp only [Act.put, List.getElem_toArray, List.getElem_cons_succ, List.getElem_cons_zero, List.setIfInBounds_toArray, List.set_cons_succ, List.set_cons_zero]
            apply takeH (i := 3) 237 rfl (by kernel_rfl) (by kernel_rfl) (by kernel_rfl) (fun _ _ _ h => h) rfl (by first | exact M.out | exact M.out.take 7)
            case' hy =>
              refine Or.inl ⟨by first | rfl | (go_simp; done), ?_⟩
              intro w hS
              clear hS
              go_simp
              try with_reducible rfl
            try simp only [Act.put, List.getElem_toArray, List.getElem_cons_succ, List.getElem_cons_zero, List.setIfInBounds_toArray, List.set_cons_succ, List.set_cons_zero]
            apply takeH (i := 4) 238 rfl (by kernel_rfl) (by kernel_rfl) (by kernel_rfl) (fun _ _ _ h => h) rfl (by first | exact M.out | exact M.out.take 7)
            case' hy =>
              refine Or.inl ⟨by first | rfl | (go_simp; done), ?_⟩
              intro w hS
              clear hS
              go_simp
              try with_reducible rfl
            try simp only [Act.put, List.getElem_toArray, List.getElem_cons_succ, List.getElem_cons_zero, List.setIfInBounds_toArray, List.set_cons_succ, List.set_cons_zero]
            apply takeH (i := 5) 239 rfl (by kernel_rfl) (by kernel_rfl) (by kernel_rfl) (fun _ _ _ h => h) rfl (by first | exact M.out | exact M.out.take 7)
            case' hy => exact yldsW _ _ rfl (by first | rfl | (go_simp; done)) Try.underlying24 rfl rfl (fun w' hS => hS.cell 6 rfl (by first | assumption | rfl))
            try simp only [Act.put, List.getElem_toArray, List.getElem_cons_succ, List.getElem_cons_zero, List.setIfInBounds_toArray, List.set_cons_succ, List.set_cons_zero]
            apply takeH (i := 6) 240 rfl (by kernel_rfl) (by kernel_rfl) (by kernel_rfl) (fun _ _ _ h => h) rfl (by first | exact M.out | exact M.out.take 7)
            case' hy =>
              refine Or.inl ⟨by first | rfl | (go_simp; done), ?_⟩
              intro w hS
              clear hS
              go_simp
              try with_reducible rfl
            try simp only [Act.put, List.getElem_toArray, List.getElem_cons_succ, List.getElem_cons_zero, List.setIfInBounds_toArray, List.set_cons_succ, List.set_cons_zero]
            apply takeH (i := 7) 241 rfl (by kernel_rfl) (by kernel_rfl) (by kernel_rfl) (fun _ _ _ h => h) rfl (by first | exact M.out | exact M.out.take 7)
            case' hy =>
              refine Or.inl ⟨by first | rfl | (go_simp; done), ?_⟩
              intro w hS
              clear hS
              go_simp
              try with_reducible rfl
            try simp only [Act.put, List.getElem_toArray, List.getElem_cons_succ, List.getElem_cons_zero, List.setIfInBounds_toArray, List.set_cons_succ, List.set_cons_zero]
            apply takeH (i := 8) 242 rfl (by kernel_rfl) (by kernel_rfl) (by kernel_rfl) (fun _ _ _ h => h) rfl (by first | exact M.out | exact M.out.take 7)
            case' hy =>
              refine Or.inl ⟨by first | rfl | (go_simp; done), ?_⟩
              intro w hS
              clear hS
              go_simp
              try with_reducible rfl
            try simp only [Act.put, List.getElem_toArray, List.getElem_cons_succ, List.getElem_cons_zero, List.setIfInBounds_toArray, List.set_cons_succ, List.set_cons_zero]
            apply takeH (i := 9) 243 rfl (by kernel_rfl) (by kernel_rfl) (by kernel_rfl) (fun _ _ _ h => h) rfl (by first | exact M.out | exact M.out.take 7)
            case' hy =>
              refine Or.inl ⟨by first | rfl | (go_simp; done), ?_⟩
              intro w hS
              clear hS
              go_simp
              try with_reducible rfl
            try simp only [Act.put, List.getElem_toArray, List.getElem_cons_succ, List.getElem_cons_zero, List.setIfInBounds_toArray, List.set_cons_succ, List.set_cons_zero]
            apply takeH (i := 10) 244 rfl (by kernel_rfl) (by kernel_rfl) (by kernel_rfl) (fun _ _ _ h => h) rfl (by first | exact M.out | exact M.out.take 7)
            case' hy =>
              refine Or.inl ⟨by first | rfl | (go_simp; done), ?_⟩
              intro w hS
              clear hS
              go_simp
              try with_reducible rfl
            try simp only [Act.put, List.getElem_toArray, List.getElem_cons_succ, List.getElem_cons_zero, List.setIfInBounds_toArray, List.set_cons_succ, List.set_cons_zero]
            apply takeH (i := 11) 245 rfl (by kernel_rfl) (by kernel_rfl) (by kernel_rfl) (fun _ _ _ h => h) rfl (by first | exact M.out | exact M.out.take 7)
            case' hy =>
              refine Or.inl ⟨by first | rfl | (go_simp; done), ?_⟩
              intro w hS
              clear hS
              go_simp
              try with_reducible rfl
            try simp only [Act.put, List.getElem_toArray, List.getElem_cons_succ, List.getElem_cons_zero, List.setIfInBounds_toArray, List.set_cons_succ, List.set_cons_zero]
            apply takeH (i := 12) 246 rfl (by kernel_rfl) (by kernel_rfl) (by kernel_rfl) (fun _ _ _ h => h) rfl (by first | exact M.out | exact M.out.take 7)
            case' hy =>
              refine Or.inl ⟨by first | rfl | (go_simp; done), ?_⟩
              intro w hS
              clear hS
              go_simp
              try with_reducible rfl
            try simp only [Act.put, List.getElem_toArray, List.getElem_cons_succ, List.getElem_cons_zero, List.setIfInBounds_toArray, List.set_cons_succ, List.set_cons_zero]
            apply takeH (i := 13) 247 rfl (by kernel_rfl) (by kernel_rfl) (by kernel_rfl) (fun _ _ _ h => h) rfl (by first | exact M.out | exact M.out.take 7)
            case' hy =>
              refine Or.inl ⟨by first | rfl | (go_simp; done), ?_⟩
              intro w hS
              clear hS
              go_simp
              try with_reducible rfl
            try simp only [Act.put, List.getElem_toArray, List.getElem_cons_succ, List.getElem_cons_zero, List.setIfInBounds_toArray, List.set_cons_succ, List.set_cons_zero]
            apply takeH (i := 14) 248 rfl (by kernel_rfl) (by kernel_rfl) (by kernel_rfl) (fun _ _ _ h => h) rfl (by first | exact M.out | exact M.out.take 7)
            case' hy =>
              refine Or.inl ⟨by first | rfl | (go_simp; done), ?_⟩
              intro w hS
              clear hS
              go_simp
              try with_reducible rfl
            try simp only [Act.put, List.getElem_toArray, List.getElem_cons_succ, List.getElem_cons_zero, List.setIfInBounds_toArray, List.set_cons_succ, List.set_cons_zero]
            apply takeH (i := 15) 249 rfl (by kernel_rfl) (by kernel_rfl) (by kernel_rfl) (fun _ _ _ h => h) rfl (by first | exact M.out | exact M.out.take 7)
            case' hy =>
              refine Or.inl ⟨by first | rfl | (go_simp; done), ?_⟩
              intro w hS
              clear hS
              go_simp
              try with_reducible rfl
            try simp only [Act.put, List.getElem_toArray, List.getElem_cons_succ, List.getElem_cons_zero, List.setIfInBounds_toArray, List.set_cons_succ, List.set_cons_zero]
            apply takeH (i := 16) 250 rfl (by kernel_rfl) (by kernel_rfl) (by kernel_rfl) (fun _ _ _ h => h) rfl (by first | exact M.out | exact M.out.take 7)
            case' hy => exact yldsW _ _ rfl (by first | rfl | (go_simp; done)) Try.underlying24 rfl rfl (fun w' hS => hS.cell 6 rfl (by first | assumption | rfl))
            try simp only [Act.put, List.getElem_toArray, List.getElem_cons_succ, List.getElem_cons_zero, List.setIfInBounds_toArray, List.set_cons_succ, List.set_cons_zero]
            apply takeH (i := 17) 251 rfl (by kernel_rfl) (by kernel_rfl) (by kernel_rfl) (fun _ _ _ h => h) rfl (by first | exact M.out | exact M.out.take 7)
            case' hy =>
              refine Or.inl ⟨by first | rfl | (go_simp; done), ?_⟩
              intro w hS
              clear hS
              go_simp
              try with_reducible rfl
            try simp only [Act.put, List.getElem_toArray, List.getElem_cons_succ, List.getElem_cons_zero, List.setIfInBounds_toArray, List.set_cons_succ, List.set_cons_zero]
            apply takeH (i := 18) 252 rfl (by kernel_rfl) (by kernel_rfl) (by kernel_rfl) (fun _ _ _ h => h) rfl (by first | exact M.out | exact M.out.take 7)
            case' hy =>
              refine Or.inl ⟨by first | rfl | (go_simp; done), ?_⟩
              intro w hS
              clear hS
              go_simp
              try with_reducible rfl
            try simp only [Act.put, List.getElem_toArray, List.getElem_cons_succ, List.getElem_cons_zero, List.setIfInBounds_toArray, List.set_cons_succ, List.set_cons_zero]
            apply takeH (i := 19) 253 rfl (by kernel_rfl) (by kernel_rfl) (by kernel_rfl) (fun _ _ _ h => h) rfl (by first | exact M.out | exact M.out.take 7)
            case' hy =>
              refine Or.inl ⟨by first | rfl | (go_simp; done), ?_⟩
              intro w hS
              clear hS
              go_simp
              try with_reducible rfl
            try simp only [Act.put, List.getElem_toArray, List.getElem_cons_succ, List.getElem_cons_zero, List.setIfInBounds_toArray, List.set_cons_succ, List.set_cons_zero]
            apply takeH (i := 20) 254 rfl (by kernel_rfl) (by kernel_rfl) (by kernel_rfl) (fun _ _ _ h => h) rfl (by first | exact M.out | exact M.out.take 7)
            case' hy =>
              refine Or.inl ⟨by first | rfl | (go_simp; done), ?_⟩
              intro w hS
              clear hS
              go_simp
              try with_reducible rfl
            try simp only [Act.put, List.getElem_toArray, List.getElem_cons_succ, List.getElem_cons_zero, List.setIfInBounds_toArray, List.set_cons_succ, List.set_cons_zero]
            apply takeH (i := 21) 255 rfl (by kernel_rfl) (by kernel_rfl) (by kernel_rfl) (fun _ _ _ h => h) rfl (by first | exact M.out | exact M.out.take 7)
            case' hy =>
              refine Or.inl ⟨by first | rfl | (go_simp; done), ?_⟩
              intro w hS
              clear hS
              go_simp
              try with_reducible rfl
            try simp only [Act.put, List.getElem_toArray, List.getElem_cons_succ, List.getElem_cons_zero, List.setIfInBounds_toArray, List.set_cons_succ, List.set_cons_zero]
            apply takeH (i := 22) 256 rfl (by kernel_rfl) (by kernel_rfl) (by kernel_rfl) (fun _ _ _ h => h) rfl (by first | exact M.out | exact M.out.take 7)
            case' hy => exact yldsW _ _ rfl (by first | rfl | (go_simp; done)) Try.underlying24 rfl rfl (fun w' hS => range_at Visit.vl (sl_rangeVisit (hS.slof 3 rfl) HKP.out) HPK.out 0 _ rfl)
            try simp only [Act.put, List.getElem_toArray, List.getElem_cons_succ, List.getElem_cons_zero, List.setIfInBounds_toArray, List.set_cons_succ, List.set_cons_zero]
            apply takeH (i := 23) 257 rfl (by kernel_rfl) (by kernel_rfl) (by kernel_rfl) (fun _ _ _ h => h) rfl (by first | exact M.out | exact M.out.take 7)
            case' hy =>
              refine Or.inl ⟨by first | rfl | (go_simp; done), ?_⟩
              intro w hS
              clear hS
              go_simp
              try with_reducible rfl
            try simp only [Act.put, List.getElem_toArray, List.getElem_cons_succ, List.getElem_cons_zero, List.setIfInBounds_toArray, List.set_cons_succ, List.set_cons_zero]
            apply takeH (i := 24) 258 rfl (by kernel_rfl) (by kernel_rfl) (by kernel_rfl) (fun _ _ _ h => h) rfl (by first | exact M.out | exact M.out.take 7)
            case' hy =>
              refine Or.inl ⟨by first | rfl | (go_simp; done), ?_⟩
              intro w hS
              clear hS
              go_simp
              try with_reducible rfl
            try simp only [Act.put, List.getElem_toArray, List.getElem_cons_succ, List.getElem_cons_zero, List.setIfInBounds_toArray, List.set_cons_succ, List.set_cons_zero]
            apply takeH (i := 25) 259 rfl (by kernel_rfl) (by kernel_rfl) (by kernel_rfl) (fun _ _ _ h => h) rfl (by first | exact M.out | exact M.out.take 7)
            case' hy =>
              refine Or.inl ⟨by first | rfl | (go_simp; done), ?_⟩
              intro w hS
              clear hS
              go_simp
              try with_reducible rfl
            try simp only [Act.put, List.getElem_toArray, List.getElem_cons_succ, List.getElem_cons_zero, List.setIfInBounds_toArray, List.set_cons_succ, List.set_cons_zero]
            apply takeH (i := 26) 260 rfl (by kernel_rfl) (by kernel_rfl) (by kernel_rfl) (fun _ _ _ h => h) rfl (by first | exact M.out | exact M.out.take 7)
            case' hy =>
              refine Or.inl ⟨by first | rfl | (go_simp; done), ?_⟩
              intro w hS
              clear hS
              go_simp
              try with_reducible rfl
            try simp only [Act.put, List.getElem_toArray, List.getElem_cons_succ, List.getElem_cons_zero, List.setIfInBounds_toArray, List.set_cons_succ, List.set_cons_zero]
            apply takeH (i := 27) 261 rfl (by kernel_rfl) (by kernel_rfl) (by kernel_rfl) (fun _ _ _ h => h) rfl (by first | exact M.out | exact M.out.take 7)
            case' hy =>
              refine Or.inl ⟨by first | rfl | (go_simp; done), ?_⟩
              intro w hS
              clear hS
              go_simp
              try with_reducible rfl
            try simp only [Act.put, List.getElem_toArray, List.getElem_cons_succ, List.getElem_cons_zero, List.setIfInBounds_toArray, List.set_cons_succ, List.set_cons_zero]
            apply takeH (i := 28) 262 rfl (by kernel_rfl) (by kernel_rfl) (by kernel_rfl) (fun _ _ _ h => h) rfl (by first | exact M.out | exact M.out.take 7)
            case' hy => exact yldsW _ _ rfl (by first | rfl | (go_simp; done)) Try.underlying26 rfl rfl (fun w' hS => hS.cell 6 rfl (by first | assumption | rfl))
            try simp only [Act.put, List.getElem_toArray, List.getElem_cons_succ, List.getElem_cons_zero, List.setIfInBounds_toArray, List.set_cons_succ, List.set_cons_zero]
            apply takeH (i := 29) 263 rfl (by kernel_rfl) (by kernel_rfl) (by kernel_rfl) (fun _ _ _ h => h) rfl (by first | exact M.out | exact M.out.take 7)
            case' hy =>
              refine Or.inl ⟨by first | rfl | (go_simp; done), ?_⟩
              intro w hS
              clear hS
              go_simp
              try with_reducible rfl
            try simp only [Act.put, List.getElem_toArray, List.getElem_cons_succ, List.getElem_cons_zero, List.setIfInBounds_toArray, List.set_cons_succ, List.set_cons_zero]
            apply takeH (i := 30) 264 rfl (by kernel_rfl) (by kernel_rfl) (by kernel_rfl) (fun _ _ _ h => h) rfl (by first | exact M.out | exact M.out.take 7)
            case' hy =>
              refine Or.inl ⟨by first | rfl | (go_simp; done), ?_⟩
              intro w hS
              clear hS
              go_simp
              try with_reducible rfl
            try simp only [Act.put, List.getElem_toArray, List.getElem_cons_succ, List.getElem_cons_zero, List.setIfInBounds_toArray, List.set_cons_succ, List.set_cons_zero]
            apply takeH (i := 31) 265 rfl (by kernel_rfl) (by kernel_rfl) (by kernel_rfl) (fun _ _ _ h => h) rfl (by first | exact M.out | exact M.out.take 7)
            case' hy =>
              refine Or.inl ⟨by first | rfl | (go_simp; done), ?_⟩
              intro w hS
              clear hS
              go_simp
              try with_reducible rfl
            try simp only [Act.put, List.getElem_toArray, List.getElem_cons_succ, List.getElem_cons_zero, List.setIfInBounds_toArray, List.set_cons_succ, List.set_cons_zero]
            apply takeH (i := 32) 266 rfl (by kernel_rfl) (by kernel_rfl) (by kernel_rfl) (fun _ _ _ h => h) rfl (by first | exact M.out | exact M.out.take 7)
            case' hy => exact yldwW _ _ rfl (by first | rfl | (go_simp; done)) Try.underlying29 rfl (by first | exact sz29 | (rw [S1.out]; exact sz29) | (rw [S2.out]; exact sz29) | (rw [S3.out]; exact sz29)) rfl (fun w' hS => hS.blk 0 rfl)
            try simp only [Act.put, List.getElem_toArray, List.getElem_cons_succ, List.getElem_cons_zero, List.setIfInBounds_toArray, List.set_cons_succ, List.set_cons_zero]
            apply takeH (i := 33) 267 rfl (by kernel_rfl) (by kernel_rfl) (by kernel_rfl) (fun _ _ _ h => h) rfl (by first | exact M.out | exact M.out.take 7)
            case' hy =>
              refine Or.inl ⟨by first | rfl | (go_simp; done), ?_⟩
              intro w hS
              clear hS
              go_simp
              try with_reducible rfl
            try simp only [Act.put, List.getElem_toArray, List.getElem_cons_succ, List.getElem_cons_zero, List.setIfInBounds_toArray, List.set_cons_succ, List.set_cons_zero]
            apply takeH (i := 34) 268 rfl (by kernel_rfl) (by kernel_rfl) (by kernel_rfl) (fun _ _ _ h => h) rfl (by first | exact M.out | exact M.out.take 7)
            case' hy => exact yldsW _ _ rfl (by first | rfl | (go_simp; done)) Try.underlying26 rfl rfl (fun w' hS => hS.cell 6 rfl (by first | assumption | rfl))
            try simp only [Act.put, List.getElem_toArray, List.getElem_cons_succ, List.getElem_cons_zero, List.setIfInBounds_toArray, List.set_cons_succ, List.set_cons_zero]
            apply takeH (i := 35) 269 rfl (by kernel_rfl) (by kernel_rfl) (by kernel_rfl) (fun _ _ _ h => h) rfl (by first | exact M.out | exact M.out.take 7)
            case' hy =>
              refine Or.inl ⟨by first | rfl | (go_simp; done), ?_⟩
              intro w hS
              clear hS
              go_simp
              try with_reducible rfl
            try simp only [Act.put, List.getElem_toArray, List.getElem_cons_succ, List.getElem_cons_zero, List.setIfInBounds_toArray, List.set_cons_succ, List.set_cons_zero]
            refine any1H 36 (by kernel_rfl) rfl (fun K hK => ?_)
            go_wp2_with (first | ((with_reducible refine gate_dst (N := 235) rfl ?_); go_must (refine M.out.ev_ld 6 _ _ rfl rfl rfl Try.underlying24 rfl rfl (by first | assumption | rfl) ?_)) | (go_at_call 17; go_must (refine (A2Is_any F WF.out.ok (c : Int) _).mono ?_); rintro e w_ ⟨rfl, N_⟩; have m := M.out.join N_; clear N_; simp only [List.cons_append, List.nil_append, List.append_nil] at m; have M := Lib.hid m; clear m; rw [HHC.out]))
            refine onward_normal (hK _ _ ⟨(by first | exact M.out | exact M.out.take 7), ?_⟩)
            clear hK K
            try simp only [Act.put, List.getElem_toArray, List.getElem_cons_succ, List.getElem_cons_zero, List.setIfInBounds_toArray, List.set_cons_succ, List.set_cons_zero]
            apply takeH (i := 37) 271 rfl (by kernel_rfl) (by kernel_rfl) (by kernel_rfl) (fun _ _ _ h => h) rfl (by first | exact M.out | exact M.out.take 7)
            case' hy =>
              refine Or.inl ⟨by first | rfl | (go_simp; done), ?_⟩
              intro w hS
              clear hS
              go_simp
              try with_reducible rfl
            try simp only [Act.put, List.getElem_toArray, List.getElem_cons_succ, List.getElem_cons_zero, List.setIfInBounds_toArray, List.set_cons_succ, List.set_cons_zero]
            apply takeH (i := 38) 272 rfl (by kernel_rfl) (by kernel_rfl) (by kernel_rfl) (fun _ _ _ h => h) rfl (by first | exact M.out | exact M.out.take 7)
            case' hy =>
              refine Or.inl ⟨by first | rfl | (go_simp; done), ?_⟩
              intro w hS
              clear hS
              go_simp
              try with_reducible rfl
            try simp only [Act.put, List.getElem_toArray, List.getElem_cons_succ, List.getElem_cons_zero, List.setIfInBounds_toArray, List.set_cons_succ, List.set_cons_zero]
            apply takeH (i := 39) 273 rfl (by kernel_rfl) (by kernel_rfl) (by kernel_rfl) (fun _ _ _ h => h) rfl (by first | exact M.out | exact M.out.take 7)
            case' hy =>
              refine Or.inl ⟨by first | rfl | (go_simp; done), ?_⟩
              intro w hS
              clear hS
              go_simp
              try with_reducible rfl
            try simp only [Act.put, List.getElem_toArray, List.getElem_cons_succ, List.getElem_cons_zero, List.setIfInBounds_toArray, List.set_cons_succ, List.set_cons_zero]
            apply takeH (i := 40) 274 rfl (by kernel_rfl) (by kernel_rfl) (by kernel_rfl) (fun _ _ _ h => h) rfl (by first | exact M.out | exact M.out.take 7)
            case' hy =>
              refine Or.inl ⟨by first | rfl | (go_simp; done), ?_⟩
              intro w hS
              clear hS
              go_simp
              try with_reducible rfl
            try simp only [Act.put, List.getElem_toArray, List.getElem_cons_succ, List.getElem_cons_zero, List.setIfInBounds_toArray, List.set_cons_succ, List.set_cons_zero]
            apply takeH (i := 41) 275 rfl (by kernel_rfl) (by kernel_rfl) (by kernel_rfl) (fun _ _ _ h => h) rfl (by first | exact M.out | exact M.out.take 7)
            case' hy => exact yldsW _ _ rfl (by first | rfl | (go_simp; done)) Try.underlying26 rfl rfl (fun w' hS => hS.cell 6 rfl (by first | assumption | rfl))
            try simp only [Act.put, List.getElem_toArray, List.getElem_cons_succ, List.getElem_cons_zero, List.setIfInBounds_toArray, List.set_cons_succ, List.set_cons_zero]
            apply takeH (i := 42) 276 rfl (by kernel_rfl) (by kernel_rfl) (by kernel_rfl) (fun _ _ _ h => h) rfl (by first | exact M.out | exact M.out.take 7)
            case' hy =>
              refine Or.inl ⟨by first | rfl | (go_simp; done), ?_⟩
              intro w hS
              clear hS
              go_simp
              try with_reducible rfl
            try simp only [Act.put, List.getElem_toArray, List.getElem_cons_succ, List.getElem_cons_zero, List.setIfInBounds_toArray, List.set_cons_succ, List.set_cons_zero]
            apply takeH (i := 43) 277 rfl (by kernel_rfl) (by kernel_rfl) (by kernel_rfl) (fun _ _ _ h => h) rfl (by first | exact M.out | exact M.out.take 7)
            case' hy =>
              refine Or.inl ⟨by first | rfl | (go_simp; done), ?_⟩
              intro w hS
              clear hS
              go_simp
              try with_reducible rfl
            try simp only [Act.put, List.getElem_toArray, List.getElem_cons_succ, List.getElem_cons_zero, List.setIfInBounds_toArray, List.set_cons_succ, List.set_cons_zero]
            apply takeH (i := 44) 278 rfl (by kernel_rfl) (by kernel_rfl) (by kernel_rfl) (fun _ _ _ h => h) rfl (by first | exact M.out | exact M.out.take 7)
            case' hy => exact yldsW _ _ rfl (by first | rfl | (go_simp; done)) Try.underlying26 rfl rfl (fun w' hS => hS.cell 5 rfl KN.out)
            try simp only [Act.put, List.getElem_toArray, List.getElem_cons_succ, List.getElem_cons_zero, List.setIfInBounds_toArray, List.set_cons_succ, List.set_cons_zero]
            apply takeH (i := 45) 279 rfl (by kernel_rfl) (by kernel_rfl) (by kernel_rfl) (fun _ _ _ h => h) rfl (by first | exact M.out | exact M.out.take 7)
            case' hy =>
              refine Or.inl ⟨by first | rfl | (go_simp; done), ?_⟩
              intro w hS
              clear hS
              go_simp
              try with_reducible rfl
            try simp only [Act.put, List.getElem_toArray, List.getElem_cons_succ, List.getElem_cons_zero, List.setIfInBounds_toArray, List.set_cons_succ, List.set_cons_zero]
            apply takeH (i := 46) 280 rfl (by kernel_rfl) (by kernel_rfl) (by kernel_rfl) (fun _ _ _ h => h) rfl (by first | exact M.out | exact M.out.take 7)
            case' hy => exact yldsW _ _ rfl (by first | rfl | (go_simp; done)) Try.underlying26 rfl rfl (fun w' hS => hS.cell 6 rfl (by first | assumption | rfl))
            try simp only [Act.put, List.getElem_toArray, List.getElem_cons_succ, List.getElem_cons_zero, List.setIfInBounds_toArray, List.set_cons_succ, List.set_cons_zero]
            apply takeH (i := 47) 281 rfl (by kernel_rfl) (by kernel_rfl) (by kernel_rfl) (fun _ _ _ h => h) rfl (by first | exact M.out | exact M.out.take 7)
            case' hy =>
              refine Or.inl ⟨by first | rfl | (go_simp; done), ?_⟩
              intro w hS
              clear hS
              go_simp
              try with_reducible rfl
            try simp only [Act.put, List.getElem_toArray, List.getElem_cons_succ, List.getElem_cons_zero, List.setIfInBounds_toArray, List.set_cons_succ, List.set_cons_zero]
            apply takeH (i := 48) 282 rfl (by kernel_rfl) (by kernel_rfl) (by kernel_rfl) (fun _ _ _ h => h) rfl (by first | exact M.out | exact M.out.take 7)
            case' hy =>
              refine Or.inl ⟨by first | rfl | (go_simp; done), ?_⟩
              intro w hS
              clear hS
              go_simp
              try with_reducible rfl
            try simp only [Act.put, List.getElem_toArray, List.getElem_cons_succ, List.getElem_cons_zero, List.setIfInBounds_toArray, List.set_cons_succ, List.set_cons_zero]
            apply takeH (i := 49) 283 rfl (by kernel_rfl) (by kernel_rfl) (by kernel_rfl) (fun _ _ _ h => h) rfl (by first | exact M.out | exact M.out.take 7)
            case' hy =>
              refine Or.inl ⟨by first | rfl | (go_simp; done), ?_⟩
              intro w hS
              clear hS
              go_simp
              try with_reducible rfl
            try simp only [Act.put, List.getElem_toArray, List.getElem_cons_succ, List.getElem_cons_zero, List.setIfInBounds_toArray, List.set_cons_succ, List.set_cons_zero]
            apply takeH (i := 50) 284 rfl (by kernel_rfl) (by kernel_rfl) (by kernel_rfl) (fun _ _ _ h => h) rfl (by first | exact M.out | exact M.out.take 7)
            case' hy =>
              refine Or.inl ⟨by first | rfl | (go_simp; done), ?_⟩
              intro w hS
              clear hS
              go_simp
              try with_reducible rfl
            try simp only [Act.put, List.getElem_toArray, List.getElem_cons_succ, List.getElem_cons_zero, List.setIfInBounds_toArray, List.set_cons_succ, List.set_cons_zero]
            apply takeH (i := 51) 285 rfl (by kernel_rfl) (by kernel_rfl) (by kernel_rfl) (fun _ _ _ h => h) rfl (by first | exact M.out | exact M.out.take 7)
            case' hy => exact yldsW _ _ rfl (by first | rfl | (go_simp; done)) Try.underlying26 rfl rfl (fun w' hS => hS.cell 6 rfl (by first | assumption | rfl))
            try simp only [Act.put, List.getElem_toArray, List.getElem_cons_succ, List.getElem_cons_zero, List.setIfInBounds_toArray, List.set_cons_succ, List.set_cons_zero]
            apply takeH (i := 52) 286 rfl (by kernel_rfl) (by kernel_rfl) (by kernel_rfl) (fun _ _ _ h => h) rfl (by first | exact M.out | exact M.out.take 7)
            case' hy =>
              refine Or.inl ⟨by first | rfl | (go_simp; done), ?_⟩
              intro w hS
              clear hS
              go_simp
              try with_reducible rfl
            try simp only [Act.put, List.getElem_toArray, List.getElem_cons_succ, List.getElem_cons_zero, List.setIfInBounds_toArray, List.set_cons_succ, List.set_cons_zero]
            apply takeH (i := 53) 287 rfl (by kernel_rfl) (by kernel_rfl) (by kernel_rfl) (fun _ _ _ h => h) rfl (by first | exact M.out | exact M.out.take 7)
            case' hy => exact yldsW _ _ rfl (by first | rfl | (go_simp; done)) Try.underlying26 rfl rfl (fun w' hS => hS.cell 1 rfl KF.out)
            try simp only [Act.put, List.getElem_toArray, List.getElem_cons_succ, List.getElem_cons_zero, List.setIfInBounds_toArray, List.set_cons_succ, List.set_cons_zero]
            apply takeH (i := 54) 288 rfl (by kernel_rfl) (by kernel_rfl) (by kernel_rfl) (fun _ _ _ h => h) rfl (by first | exact M.out | exact M.out.take 7)
            case' hy =>
              refine Or.inl ⟨by first | rfl | (go_simp; done), ?_⟩
              intro w hS
              clear hS
              go_simp
              try with_reducible rfl
            try simp only [Act.put, List.getElem_toArray, List.getElem_cons_succ, List.getElem_cons_zero, List.setIfInBounds_toArray, List.set_cons_succ, List.set_cons_zero]
            apply takeH (i := 55) 289 rfl (by kernel_rfl) (by kernel_rfl) (by kernel_rfl) (fun _ _ _ h => h) rfl (by first | exact M.out | exact M.out.take 7)
            case' hy =>
              refine Or.inl ⟨by first | rfl | (go_simp; done), ?_⟩
              intro w hS
              clear hS
              go_simp
              try with_reducible rfl
            try simp only [Act.put, List.getElem_toArray, List.getElem_cons_succ, List.getElem_cons_zero, List.setIfInBounds_toArray, List.set_cons_succ, List.set_cons_zero]
            apply takeH (i := 56) 290 rfl (by kernel_rfl) (by kernel_rfl) (by kernel_rfl) (fun _ _ _ h => h) rfl (by first | exact M.out | exact M.out.take 7)
            case' hy => exact yldsW _ _ rfl (by first | rfl | (go_simp; done)) Try.underlying24 rfl rfl (fun w' hS => hS.cell 6 rfl (by first | assumption | rfl))
            try simp only [Act.put, List.getElem_toArray, List.getElem_cons_succ, List.getElem_cons_zero, List.setIfInBounds_toArray, List.set_cons_succ, List.set_cons_zero]
            apply takeH (i := 57) 291 rfl (by kernel_rfl) (by kernel_rfl) (by kernel_rfl) (fun _ _ _ h => h) rfl (by first | exact M.out | exact M.out.take 7)
            case' hy =>
              refine Or.inl ⟨by first | rfl | (go_simp; done), ?_⟩
              intro w hS
              clear hS
              go_simp
              try with_reducible rfl
            try simp only [Act.put, List.getElem_toArray, List.getElem_cons_succ, List.getElem_cons_zero, List.setIfInBounds_toArray, List.set_cons_succ, List.set_cons_zero]
            apply takeH (i := 58) 292 rfl (by kernel_rfl) (by kernel_rfl) (by kernel_rfl) (fun _ _ _ h => h) rfl (by first | exact M.out | exact M.out.take 7)
            case' hy =>
              refine Or.inl ⟨by first | rfl | (go_simp; done), ?_⟩
              intro w hS
              clear hS
              go_simp
              try with_reducible rfl
            try simp only [Act.put, List.getElem_toArray, List.getElem_cons_succ, List.getElem_cons_zero, List.setIfInBounds_toArray, List.set_cons_succ, List.set_cons_zero]
            apply takeH (i := 59) 293 rfl (by kernel_rfl) (by kernel_rfl) (by kernel_rfl) (fun _ _ _ h => h) rfl (by first | exact M.out | exact M.out.take 7)
            case' hy => exact yldsW _ _ rfl (by first | rfl | (go_simp; done)) Try.underlying26 rfl rfl (fun w' hS => range_at Flock.vl (sl_rangeFlock (hS.slof 2 rfl) hil) HXI.out 3 _ rfl)
            try simp only [Act.put, List.getElem_toArray, List.getElem_cons_succ, List.getElem_cons_zero, List.setIfInBounds_toArray, List.set_cons_succ, List.set_cons_zero]
            apply takeH (i := 60) 294 rfl (by kernel_rfl) (by kernel_rfl) (by kernel_rfl) (fun _ _ _ h => h) rfl (by first | exact M.out | exact M.out.take 7)
            case' hy =>
              refine Or.inl ⟨by first | rfl | (go_simp; done), ?_⟩
              intro w hS
              clear hS
              go_simp
              try with_reducible rfl
            try simp only [Act.put, List.getElem_toArray, List.getElem_cons_succ, List.getElem_cons_zero, List.setIfInBounds_toArray, List.set_cons_succ, List.set_cons_zero]
            apply takeH (i := 61) 295 rfl (by kernel_rfl) (by kernel_rfl) (by kernel_rfl) (fun _ _ _ h => h) rfl (by first | exact M.out | exact M.out.take 7)
            case' hy =>
              refine Or.inl ⟨by first | rfl | (go_simp; done), ?_⟩
              intro w hS
              clear hS
              go_simp
              try with_reducible rfl
            try simp only [Act.put, List.getElem_toArray, List.getElem_cons_succ, List.getElem_cons_zero, List.setIfInBounds_toArray, List.set_cons_succ, List.set_cons_zero]
            refine wpAnyH_done (by kernel_rfl) ?_ _
            go_wp2
            refine region_any (by kernel_rfl) ?_
            have m := M.out.drew
            clear M
            have M := Lib.hid m
            clear m
            apply takeD (i := 0) 296 rfl (by kernel_rfl) (by kernel_rfl) (by kernel_rfl) (fun _ _ _ h => h) rfl
            case' hy =>
              refine Or.inl ⟨by first | rfl | (go_simp; done), ?_⟩
              intro w
              go_simp
              try with_reducible rfl
            try simp only [Act.put, List.setIfInBounds_toArray, List.set_cons_succ, List.set_cons_zero]
            apply takeD (i := 2) 298 rfl (by kernel_rfl) (by kernel_rfl) (by kernel_rfl) (fun _ _ _ h => h) rfl
            case' hy =>
              refine Or.inl ⟨by first | rfl | (go_simp; done), ?_⟩
              intro w
              go_simp
              try with_reducible rfl
            try simp only [Act.put, List.setIfInBounds_toArray, List.set_cons_succ, List.set_cons_zero]
            apply takeD (i := 5) 301 rfl (by kernel_rfl) (by kernel_rfl) (by kernel_rfl) (fun _ _ _ h => h) rfl
            case' hy =>
              refine Or.inl ⟨by first | rfl | (go_simp; done), ?_⟩
              intro w
              go_simp
              try with_reducible rfl
            try simp only [Act.put, List.setIfInBounds_toArray, List.set_cons_succ, List.set_cons_zero]
            apply takeD (i := 8) 304 rfl (by kernel_rfl) (by kernel_rfl) (by kernel_rfl) (fun _ _ _ h => h) rfl
            case' hy =>
              refine Or.inl ⟨by first | rfl | (go_simp; done), ?_⟩
              intro w
              go_simp
              try with_reducible rfl
            try simp only [Act.put, List.setIfInBounds_toArray, List.set_cons_succ, List.set_cons_zero]
            refine any2k 1 6 (by kernel_rfl) rfl rfl (fun K hK => ?_) (fun K hK => ?_)
            rotate_right 1
            case' _ =>
              go_wp2_with (first | ((with_reducible refine gate_dst (N := 297) rfl ?_); go_must (refine M.out.ev_ld 6 _ _ rfl rfl rfl Try.underlying26 rfl rfl rfl ?_)) | ((with_reducible refine gate_dst (N := 300) rfl ?_); go_must (refine M.out.ev_ld 5 _ _ rfl rfl rfl Try.underlying26 rfl rfl KN.out ?_)) | ((with_reducible refine gate_dst (N := 302) rfl ?_); go_must (refine M.out.ev_ld 6 _ _ rfl rfl rfl Try.underlying26 rfl rfl rfl ?_)) | ((with_reducible refine gate_store (x := .tmp 305) rfl ?_); go_must (refine M.out.ev_put 5 _ _ _ rfl rfl rfl rfl (.int .i16 (sd - q)) rfl SZN.out sz26 rfl rfl ?_); intro wn m; simp only [List.set_cons_succ, List.set_cons_zero, HST.out] at m; have M := Lib.hid m; clear m))
              refine onward_normal (hK _ _ ?_)
              clear hK K
              try simp only [Act.put, List.getElem_toArray, List.getElem_cons_succ, List.getElem_cons_zero, List.setIfInBounds_toArray, List.set_cons_succ, List.set_cons_zero]
              refine any1k 1 (by kernel_rfl) rfl (fun K hK => ?_)
              go_wp2_with (first | ((with_reducible refine gate_dst (N := 297) rfl ?_); go_must (refine M.out.ev_ld 6 _ _ rfl rfl rfl Try.underlying26 rfl rfl rfl ?_)) | ((with_reducible refine gate_dst (N := 300) rfl ?_); go_must (refine M.out.ev_ld 5 _ _ rfl rfl rfl Try.underlying26 rfl rfl KN.out ?_)) | ((with_reducible refine gate_dst (N := 302) rfl ?_); go_must (refine M.out.ev_ld 6 _ _ rfl rfl rfl Try.underlying26 rfl rfl rfl ?_)) | ((with_reducible refine gate_store (x := .tmp 305) rfl ?_); go_must (refine M.out.ev_put 5 _ _ _ rfl rfl rfl rfl (.int .i16 (sd - q)) rfl SZN.out sz26 rfl rfl ?_); intro wn m; simp only [List.set_cons_succ, List.set_cons_zero, HST.out] at m; have M := Lib.hid m; clear m))
              refine onward_normal (hK _ _ ?_)
              clear hK K
              try simp only [Act.put, List.getElem_toArray, List.getElem_cons_succ, List.getElem_cons_zero, List.setIfInBounds_toArray, List.set_cons_succ, List.set_cons_zero]
              refine any1k 3 (by kernel_rfl) rfl (fun K hK => ?_)
              go_wp2
              refine onward_normal (hK _ _ ?_)
              clear hK K
              try simp only [Act.put, List.getElem_toArray, List.getElem_cons_succ, List.getElem_cons_zero, List.setIfInBounds_toArray, List.set_cons_succ, List.set_cons_zero]
              refine any1k 4 (by kernel_rfl) rfl (fun K hK => ?_)
              go_wp2_with (first | ((with_reducible refine gate_dst (N := 297) rfl ?_); go_must (refine M.out.ev_ld 6 _ _ rfl rfl rfl Try.underlying26 rfl rfl rfl ?_)) | ((with_reducible refine gate_dst (N := 300) rfl ?_); go_must (refine M.out.ev_ld 5 _ _ rfl rfl rfl Try.underlying26 rfl rfl KN.out ?_)) | ((with_reducible refine gate_dst (N := 302) rfl ?_); go_must (refine M.out.ev_ld 6 _ _ rfl rfl rfl Try.underlying26 rfl rfl rfl ?_)) | ((with_reducible refine gate_store (x := .tmp 305) rfl ?_); go_must (refine M.out.ev_put 5 _ _ _ rfl rfl rfl rfl (.int .i16 (sd - q)) rfl SZN.out sz26 rfl rfl ?_); intro wn m; simp only [List.set_cons_succ, List.set_cons_zero, HST.out] at m; have M := Lib.hid m; clear m))
              refine onward_normal (hK _ _ ?_)
              clear hK K
              try simp only [Act.put, List.getElem_toArray, List.getElem_cons_succ, List.getElem_cons_zero, List.setIfInBounds_toArray, List.set_cons_succ, List.set_cons_zero]
              refine any1k 7 (by kernel_rfl) rfl (fun K hK => ?_)
              go_wp2
              refine onward_normal (hK _ _ ?_)
              clear hK K
              try simp only [Act.put, List.getElem_toArray, List.getElem_cons_succ, List.getElem_cons_zero, List.setIfInBounds_toArray, List.set_cons_succ, List.set_cons_zero]
              refine any1k 9 (by kernel_rfl) rfl (fun K hK => ?_)
              go_wp2
              refine onward_normal (hK _ _ ?_)
              clear hK K
              try simp only [Act.put, List.getElem_toArray, List.getElem_cons_succ, List.getElem_cons_zero, List.setIfInBounds_toArray, List.set_cons_succ, List.set_cons_zero]
              refine any1k 10 (by kernel_rfl) rfl (fun K hK => ?_)
              go_wp2_with (first | ((with_reducible refine gate_dst (N := 297) rfl ?_); go_must (refine M.out.ev_ld 6 _ _ rfl rfl rfl Try.underlying26 rfl rfl rfl ?_)) | ((with_reducible refine gate_dst (N := 300) rfl ?_); go_must (refine M.out.ev_ld 5 _ _ rfl rfl rfl Try.underlying26 rfl rfl KN.out ?_)) | ((with_reducible refine gate_dst (N := 302) rfl ?_); go_must (refine M.out.ev_ld 6 _ _ rfl rfl rfl Try.underlying26 rfl rfl rfl ?_)) | ((with_reducible refine gate_store (x := .tmp 305) rfl ?_); go_must (refine M.out.ev_put 5 _ _ _ rfl rfl rfl rfl (.int .i16 (sd - q)) rfl SZN.out sz26 rfl rfl ?_); intro wn m; simp only [List.set_cons_succ, List.set_cons_zero, HST.out] at m; have M := Lib.hid m; clear m))
              refine onward_normal (hK _ _ ?_)
              clear hK K
              try simp only [Act.put, List.getElem_toArray, List.getElem_cons_succ, List.getElem_cons_zero, List.setIfInBounds_toArray, List.set_cons_succ, List.set_cons_zero]
              refine wpAny_done (by kernel_rfl) ?_ _
            rotate_right 1
            case' _ =>
              go_wp2_with (first | ((with_reducible refine gate_dst (N := 297) rfl ?_); go_must (refine M.out.ev_ld 6 _ _ rfl rfl rfl Try.underlying26 rfl rfl rfl ?_)) | ((with_reducible refine gate_dst (N := 300) rfl ?_); go_must (refine M.out.ev_ld 5 _ _ rfl rfl rfl Try.underlying26 rfl rfl KN.out ?_)) | ((with_reducible refine gate_dst (N := 302) rfl ?_); go_must (refine M.out.ev_ld 6 _ _ rfl rfl rfl Try.underlying26 rfl rfl rfl ?_)) | ((with_reducible refine gate_store (x := .tmp 305) rfl ?_); go_must (refine M.out.ev_put 5 _ _ _ rfl rfl rfl rfl (.int .i16 (sd - q)) rfl SZN.out sz26 rfl rfl ?_); intro wn m; simp only [List.set_cons_succ, List.set_cons_zero, HST.out] at m; have M := Lib.hid m; clear m))
              refine onward_normal (hK _ _ ?_)
              clear hK K
              try simp only [Act.put, List.getElem_toArray, List.getElem_cons_succ, List.getElem_cons_zero, List.setIfInBounds_toArray, List.set_cons_succ, List.set_cons_zero]
              apply takeD (i := 3) 299 rfl (by kernel_rfl) (by kernel_rfl) (by kernel_rfl) (fun _ _ _ h => h) rfl
              case' hy =>
                refine Or.inl ⟨by first | rfl | (go_simp; done), ?_⟩
                intro w
                go_simp
                try with_reducible rfl
              try simp only [Act.put, List.setIfInBounds_toArray, List.set_cons_succ, List.set_cons_zero]
              refine any2k 4 6 (by kernel_rfl) rfl rfl (fun K hK => ?_) (fun K hK => ?_)
              rotate_right 1
              case' _ =>
                go_wp2_with (first | ((with_reducible refine gate_dst (N := 297) rfl ?_); go_must (refine M.out.ev_ld 6 _ _ rfl rfl rfl Try.underlying26 rfl rfl rfl ?_)) | ((with_reducible refine gate_dst (N := 300) rfl ?_); go_must (refine M.out.ev_ld 5 _ _ rfl rfl rfl Try.underlying26 rfl rfl KN.out ?_)) | ((with_reducible refine gate_dst (N := 302) rfl ?_); go_must (refine M.out.ev_ld 6 _ _ rfl rfl rfl Try.underlying26 rfl rfl rfl ?_)) | ((with_reducible refine gate_store (x := .tmp 305) rfl ?_); go_must (refine M.out.ev_put 5 _ _ _ rfl rfl rfl rfl (.int .i16 (sd - q)) rfl SZN.out sz26 rfl rfl ?_); intro wn m; simp only [List.set_cons_succ, List.set_cons_zero, HST.out] at m; have M := Lib.hid m; clear m))
                refine onward_normal (hK _ _ ?_)
                clear hK K
                try simp only [Act.put, List.getElem_toArray, List.getElem_cons_succ, List.getElem_cons_zero, List.setIfInBounds_toArray, List.set_cons_succ, List.set_cons_zero]
                refine any1k 4 (by kernel_rfl) rfl (fun K hK => ?_)
                go_wp2_with (first | ((with_reducible refine gate_dst (N := 297) rfl ?_); go_must (refine M.out.ev_ld 6 _ _ rfl rfl rfl Try.underlying26 rfl rfl rfl ?_)) | ((with_reducible refine gate_dst (N := 300) rfl ?_); go_must (refine M.out.ev_ld 5 _ _ rfl rfl rfl Try.underlying26 rfl rfl KN.out ?_)) | ((with_reducible refine gate_dst (N := 302) rfl ?_); go_must (refine M.out.ev_ld 6 _ _ rfl rfl rfl Try.underlying26 rfl rfl rfl ?_)) | ((with_reducible refine gate_store (x := .tmp 305) rfl ?_); go_must (refine M.out.ev_put 5 _ _ _ rfl rfl rfl rfl (.int .i16 (sd - q)) rfl SZN.out sz26 rfl rfl ?_); intro wn m; simp only [List.set_cons_succ, List.set_cons_zero, HST.out] at m; have M := Lib.hid m; clear m))
                refine onward_normal (hK _ _ ?_)
                clear hK K
                try simp only [Act.put, List.getElem_toArray, List.getElem_cons_succ, List.getElem_cons_zero, List.setIfInBounds_toArray, List.set_cons_succ, List.set_cons_zero]
                refine any1k 7 (by kernel_rfl) rfl (fun K hK => ?_)
                go_wp2
                refine onward_normal (hK _ _ ?_)
                clear hK K
                try simp only [Act.put, List.getElem_toArray, List.getElem_cons_succ, List.getElem_cons_zero, List.setIfInBounds_toArray, List.set_cons_succ, List.set_cons_zero]
                refine any1k 9 (by kernel_rfl) rfl (fun K hK => ?_)
                go_wp2
                refine onward_normal (hK _ _ ?_)
                clear hK K
                try simp only [Act.put, List.getElem_toArray, List.getElem_cons_succ, List.getElem_cons_zero, List.setIfInBounds_toArray, List.set_cons_succ, List.set_cons_zero]
                refine any1k 10 (by kernel_rfl) rfl (fun K hK => ?_)
                go_wp2_with (first | ((with_reducible refine gate_dst (N := 297) rfl ?_); go_must (refine M.out.ev_ld 6 _ _ rfl rfl rfl Try.underlying26 rfl rfl rfl ?_)) | ((with_reducible refine gate_dst (N := 300) rfl ?_); go_must (refine M.out.ev_ld 5 _ _ rfl rfl rfl Try.underlying26 rfl rfl KN.out ?_)) | ((with_reducible refine gate_dst (N := 302) rfl ?_); go_must (refine M.out.ev_ld 6 _ _ rfl rfl rfl Try.underlying26 rfl rfl rfl ?_)) | ((with_reducible refine gate_store (x := .tmp 305) rfl ?_); go_must (refine M.out.ev_put 5 _ _ _ rfl rfl rfl rfl (.int .i16 (sd - q)) rfl SZN.out sz26 rfl rfl ?_); intro wn m; simp only [List.set_cons_succ, List.set_cons_zero, HST.out] at m; have M := Lib.hid m; clear m))
                refine onward_normal (hK _ _ ?_)
                clear hK K
                try simp only [Act.put, List.getElem_toArray, List.getElem_cons_succ, List.getElem_cons_zero, List.setIfInBounds_toArray, List.set_cons_succ, List.set_cons_zero]
                refine wpAny_done (by kernel_rfl) ?_ _
              rotate_right 1
              case' _ =>
                go_wp2_with (first | ((with_reducible refine gate_dst (N := 297) rfl ?_); go_must (refine M.out.ev_ld 6 _ _ rfl rfl rfl Try.underlying26 rfl rfl rfl ?_)) | ((with_reducible refine gate_dst (N := 300) rfl ?_); go_must (refine M.out.ev_ld 5 _ _ rfl rfl rfl Try.underlying26 rfl rfl KN.out ?_)) | ((with_reducible refine gate_dst (N := 302) rfl ?_); go_must (refine M.out.ev_ld 6 _ _ rfl rfl rfl Try.underlying26 rfl rfl rfl ?_)) | ((with_reducible refine gate_store (x := .tmp 305) rfl ?_); go_must (refine M.out.ev_put 5 _ _ _ rfl rfl rfl rfl (.int .i16 (sd - q)) rfl SZN.out sz26 rfl rfl ?_); intro wn m; simp only [List.set_cons_succ, List.set_cons_zero, HST.out] at m; have M := Lib.hid m; clear m))
                refine onward_normal (hK _ _ ?_)
                clear hK K
                try simp only [Act.put, List.getElem_toArray, List.getElem_cons_succ, List.getElem_cons_zero, List.setIfInBounds_toArray, List.set_cons_succ, List.set_cons_zero]
                refine any1k 6 (by kernel_rfl) rfl (fun K hK => ?_)
                go_wp2_with (first | ((with_reducible refine gate_dst (N := 297) rfl ?_); go_must (refine M.out.ev_ld 6 _ _ rfl rfl rfl Try.underlying26 rfl rfl rfl ?_)) | ((with_reducible refine gate_dst (N := 300) rfl ?_); go_must (refine M.out.ev_ld 5 _ _ rfl rfl rfl Try.underlying26 rfl rfl KN.out ?_)) | ((with_reducible refine gate_dst (N := 302) rfl ?_); go_must (refine M.out.ev_ld 6 _ _ rfl rfl rfl Try.underlying26 rfl rfl rfl ?_)) | ((with_reducible refine gate_store (x := .tmp 305) rfl ?_); go_must (refine M.out.ev_put 5 _ _ _ rfl rfl rfl rfl (.int .i16 (sd - q)) rfl SZN.out sz26 rfl rfl ?_); intro wn m; simp only [List.set_cons_succ, List.set_cons_zero, HST.out] at m; have M := Lib.hid m; clear m))
                refine onward_normal (hK _ _ ?_)
                clear hK K
                try simp only [Act.put, List.getElem_toArray, List.getElem_cons_succ, List.getElem_cons_zero, List.setIfInBounds_toArray, List.set_cons_succ, List.set_cons_zero]
                refine any1k 7 (by kernel_rfl) rfl (fun K hK => ?_)
                go_wp2
                refine onward_normal (hK _ _ ?_)
                clear hK K
                try simp only [Act.put, List.getElem_toArray, List.getElem_cons_succ, List.getElem_cons_zero, List.setIfInBounds_toArray, List.set_cons_succ, List.set_cons_zero]
                refine any1k 9 (by kernel_rfl) rfl (fun K hK => ?_)
                go_wp2
                refine onward_normal (hK _ _ ?_)
                clear hK K
                try simp only [Act.put, List.getElem_toArray, List.getElem_cons_succ, List.getElem_cons_zero, List.setIfInBounds_toArray, List.set_cons_succ, List.set_cons_zero]
                refine any1k 10 (by kernel_rfl) rfl (fun K hK => ?_)
                go_wp2_with (first | ((with_reducible refine gate_dst (N := 297) rfl ?_); go_must (refine M.out.ev_ld 6 _ _ rfl rfl rfl Try.underlying26 rfl rfl rfl ?_)) | ((with_reducible refine gate_dst (N := 300) rfl ?_); go_must (refine M.out.ev_ld 5 _ _ rfl rfl rfl Try.underlying26 rfl rfl KN.out ?_)) | ((with_reducible refine gate_dst (N := 302) rfl ?_); go_must (refine M.out.ev_ld 6 _ _ rfl rfl rfl Try.underlying26 rfl rfl rfl ?_)) | ((with_reducible refine gate_store (x := .tmp 305) rfl ?_); go_must (refine M.out.ev_put 5 _ _ _ rfl rfl rfl rfl (.int .i16 (sd - q)) rfl SZN.out sz26 rfl rfl ?_); intro wn m; simp only [List.set_cons_succ, List.set_cons_zero, HST.out] at m; have M := Lib.hid m; clear m))
                refine onward_normal (hK _ _ ?_)
                clear hK K
                try simp only [Act.put, List.getElem_toArray, List.getElem_cons_succ, List.getElem_cons_zero, List.setIfInBounds_toArray, List.set_cons_succ, List.set_cons_zero]
                refine wpAny_done (by kernel_rfl) ?_ _
            all_goals
              go_wp2
              exact ⟨⟨k + 1, by omega, by go_num, by rw [HNX.out]; exact M.out.take 6⟩, by simp [intOf]; try omega⟩
          · as_aux_lemma =>
            have d3 : decide (0 < k) = false := decide_eq_false hk0
            go_wp2
            refine region_anyH (fun w' => Mem w w' [.blk g5 29 F.cells, .blk g6 31 (ints .i16 fs), .row (.slice (some ⟨xb, xo, none⟩) xs.length cp) 48 6 xs.length (flat Flock.vals xs), .row (.slice (some ⟨vb, vo, none⟩) vs.length c12) 51 3 vs.length (flat Visit.vals vs), .blk g11 29 G.cells, .blk g26 29 N.cells, .blk g28 51 #[.int .i8 i, .int .i16 c, .int .i16 q]]) (by kernel_rfl) ?_
            have m := M.out.drew
            clear M
            have M := Lib.hid m
            clear m
            apply takeH (i := 0) 234 rfl (by kernel_rfl) (by kernel_rfl) (by kernel_rfl) (fun _ _ _ h => h) rfl (by first | exact M.out | exact M.out.take 7)
            case' hy =>
              refine Or.inl ⟨by first | rfl | (go_simp; done), ?_⟩
              intro w hS
              clear hS
              go_simp
              try with_reducible rfl
            try simp only [Act.put, List.getElem_toArray, List.getElem_cons_succ, List.getElem_cons_zero, List.setIfInBounds_toArray, List.set_cons_succ, List.set_cons_zero]
            apply takeH (i := 1) 235 rfl (by kernel_rfl) (by kernel_rfl) (by kernel_rfl) (fun _ _ _ h => h) rfl (by first | exact M.out | exact M.out.take 7)
            case' hy => exact ylds _ _ rfl rfl Try.underlying24 rfl rfl (fun w' hS => hS.cell 6 rfl (by first | assumption | rfl))
            try simp only [Act.put, List.getElem_toArray, List.getElem_cons_succ, List.getElem_cons_zero, List.setIfInBounds_toArray, List.set_cons_succ, List.set_cons_zero]
            apply takeH (i := 2) 236 rfl (by kernel_rfl) (by kernel_rfl) (by kernel_rfl) (fun _ _ _ h => h) rfl (by first | exact M.out | exact M.out.take 7)
            case' hy =>
              refine Or.inl ⟨by first | rfl | (go_simp; done), ?_⟩
              intro w hS
              clear hS
              go_simp
              try with_reducible rfl
            try simp only [Act.put, List.getElem_toArray, List.getElem_cons_succ, List.getElem_cons_zero, List.setIfInBounds_toArray, List.set_cons_succ, List.set_cons_zero]
            apply takeH (i := 3) 237 rfl (by kernel_rfl) (by kernel_rfl) (by kernel_rfl) (fun _ _ _ h => h) rfl (by first | exact M.out | exact M.out.take 7)
            case' hy =>
              refine Or.inl ⟨by first | rfl | (go_simp; done), ?_⟩
              intro w hS
              clear hS
              go_simp
              try with_reducible rfl
            try simp only [Act.put, List.getElem_toArray, List.getElem_cons_succ, List.getElem_cons_zero, List.setIfInBounds_toArray, List.set_cons_succ, List.set_cons_zero]
            apply takeH (i := 4) 238 rfl (by kernel_rfl) (by kernel_rfl) (by kernel_rfl) (fun _ _ _ h => h) rfl (by first | exact M.out | exact M.out.take 7)
            case' hy =>
              refine Or.inl ⟨by first | rfl | (go_simp; done), ?_⟩
              intro w hS
              clear hS
              go_simp
              try with_reducible rfl
            try simp only [Act.put, List.getElem_toArray, List.getElem_cons_succ, List.getElem_cons_zero, List.setIfInBounds_toArray, List.set_cons_succ, List.set_cons_zero]
            apply takeH (i := 5) 239 rfl (by kernel_rfl) (by kernel_rfl) (by kernel_rfl) (fun _ _ _ h => h) rfl (by first | exact M.out | exact M.out.take 7)
            case' hy => exact yldsW _ _ rfl (by first | rfl | (go_simp; done)) Try.underlying24 rfl rfl (fun w' hS => hS.cell 6 rfl (by first | assumption | rfl))
            try simp only [Act.put, List.getElem_toArray, List.getElem_cons_succ, List.getElem_cons_zero, List.setIfInBounds_toArray, List.set_cons_succ, List.set_cons_zero]
            apply takeH (i := 6) 240 rfl (by kernel_rfl) (by kernel_rfl) (by kernel_rfl) (fun _ _ _ h => h) rfl (by first | exact M.out | exact M.out.take 7)
            case' hy =>
              refine Or.inl ⟨by first | rfl | (go_simp; done), ?_⟩
              intro w hS
              clear hS
              go_simp
              try with_reducible rfl
            try simp only [Act.put, List.getElem_toArray, List.getElem_cons_succ, List.getElem_cons_zero, List.setIfInBounds_toArray, List.set_cons_succ, List.set_cons_zero]
            apply takeH (i := 7) 241 rfl (by kernel_rfl) (by kernel_rfl) (by kernel_rfl) (fun _ _ _ h => h) rfl (by first | exact M.out | exact M.out.take 7)
            case' hy =>
              refine Or.inl ⟨by first | rfl | (go_simp; done), ?_⟩
              intro w hS
              clear hS
              go_simp
              try with_reducible rfl
            try simp only [Act.put, List.getElem_toArray, List.getElem_cons_succ, List.getElem_cons_zero, List.setIfInBounds_toArray, List.set_cons_succ, List.set_cons_zero]
            apply takeH (i := 8) 242 rfl (by kernel_rfl) (by kernel_rfl) (by kernel_rfl) (fun _ _ _ h => h) rfl (by first | exact M.out | exact M.out.take 7)
            case' hy =>
              refine Or.inl ⟨by first | rfl | (go_simp; done), ?_⟩
              intro w hS
              clear hS
              go_simp
              try with_reducible rfl
            try simp only [Act.put, List.getElem_toArray, List.getElem_cons_succ, List.getElem_cons_zero, List.setIfInBounds_toArray, List.set_cons_succ, List.set_cons_zero]
            apply takeH (i := 9) 243 rfl (by kernel_rfl) (by kernel_rfl) (by kernel_rfl) (fun _ _ _ h => h) rfl (by first | exact M.out | exact M.out.take 7)
            case' hy =>
              refine Or.inl ⟨by first | rfl | (go_simp; done), ?_⟩
              intro w hS
              clear hS
              go_simp
              try with_reducible rfl
            try simp only [Act.put, List.getElem_toArray, List.getElem_cons_succ, List.getElem_cons_zero, List.setIfInBounds_toArray, List.set_cons_succ, List.set_cons_zero]
            apply takeH (i := 10) 244 rfl (by kernel_rfl) (by kernel_rfl) (by kernel_rfl) (fun _ _ _ h => h) rfl (by first | exact M.out | exact M.out.take 7)
            case' hy =>
              refine Or.inl ⟨by first | rfl | (go_simp; done), ?_⟩
              intro w hS
              clear hS
              go_simp
              try with_reducible rfl
            try simp only [Act.put, List.getElem_toArray, List.getElem_cons_succ, List.getElem_cons_zero, List.setIfInBounds_toArray, List.set_cons_succ, List.set_cons_zero]
            apply takeH (i := 11) 245 rfl (by kernel_rfl) (by kernel_rfl) (by kernel_rfl) (fun _ _ _ h => h) rfl (by first | exact M.out | exact M.out.take 7)
            case' hy =>
              refine Or.inl ⟨by first | rfl | (go_simp; done), ?_⟩
              intro w hS
              clear hS
              go_simp
              try with_reducible rfl
            try simp only [Act.put, List.getElem_toArray, List.getElem_cons_succ, List.getElem_cons_zero, List.setIfInBounds_toArray, List.set_cons_succ, List.set_cons_zero]
            apply takeH (i := 12) 246 rfl (by kernel_rfl) (by kernel_rfl) (by kernel_rfl) (fun _ _ _ h => h) rfl (by first | exact M.out | exact M.out.take 7)
            case' hy =>
              refine Or.inl ⟨by first | rfl | (go_simp; done), ?_⟩
              intro w hS
              clear hS
              go_simp
              try with_reducible rfl
            try simp only [Act.put, List.getElem_toArray, List.getElem_cons_succ, List.getElem_cons_zero, List.setIfInBounds_toArray, List.set_cons_succ, List.set_cons_zero]
            apply takeH (i := 13) 247 rfl (by kernel_rfl) (by kernel_rfl) (by kernel_rfl) (fun _ _ _ h => h) rfl (by first | exact M.out | exact M.out.take 7)
            case' hy =>
              refine Or.inl ⟨by first | rfl | (go_simp; done), ?_⟩
              intro w hS
              clear hS
              go_simp
              try with_reducible rfl
            try simp only [Act.put, List.getElem_toArray, List.getElem_cons_succ, List.getElem_cons_zero, List.setIfInBounds_toArray, List.set_cons_succ, List.set_cons_zero]
            apply takeH (i := 14) 248 rfl (by kernel_rfl) (by kernel_rfl) (by kernel_rfl) (fun _ _ _ h => h) rfl (by first | exact M.out | exact M.out.take 7)
            case' hy =>
              refine Or.inl ⟨by first | rfl | (go_simp; done), ?_⟩
              intro w hS
              clear hS
              go_simp
              try with_reducible rfl
            try simp only [Act.put, List.getElem_toArray, List.getElem_cons_succ, List.getElem_cons_zero, List.setIfInBounds_toArray, List.set_cons_succ, List.set_cons_zero]
            refine wpAnyH_take (i := 15) (v := undef) rfl (by kernel_rfl) (by kernel_rfl) (by kernel_rfl) (fun _ _ _ h => h) (Or.inr ⟨by kernel_rfl, rfl⟩) (by first | exact M.out | exact M.out.take 7) ?_
            try simp only [Act.put, List.getElem_toArray, List.getElem_cons_succ, List.getElem_cons_zero, List.setIfInBounds_toArray, List.set_cons_succ, List.set_cons_zero]
            refine wpAnyH_take (i := 16) (v := undef) rfl (by kernel_rfl) (by kernel_rfl) (by kernel_rfl) (fun _ _ _ h => h) (Or.inr ⟨by kernel_rfl, rfl⟩) (by first | exact M.out | exact M.out.take 7) ?_
            try simp only [Act.put, List.getElem_toArray, List.getElem_cons_succ, List.getElem_cons_zero, List.setIfInBounds_toArray, List.set_cons_succ, List.set_cons_zero]
            refine wpAnyH_take (i := 17) (v := undef) rfl (by kernel_rfl) (by kernel_rfl) (by kernel_rfl) (fun _ _ _ h => h) (Or.inr ⟨by kernel_rfl, rfl⟩) (by first | exact M.out | exact M.out.take 7) ?_
            try simp only [Act.put, List.getElem_toArray, List.getElem_cons_succ, List.getElem_cons_zero, List.setIfInBounds_toArray, List.set_cons_succ, List.set_cons_zero]
            refine wpAnyH_take (i := 18) (v := undef) rfl (by kernel_rfl) (by kernel_rfl) (by kernel_rfl) (fun _ _ _ h => h) (Or.inr ⟨by kernel_rfl, rfl⟩) (by first | exact M.out | exact M.out.take 7) ?_
            try simp only [Act.put, List.getElem_toArray, List.getElem_cons_succ, List.getElem_cons_zero, List.setIfInBounds_toArray, List.set_cons_succ, List.set_cons_zero]
            refine wpAnyH_take (i := 19) (v := undef) rfl (by kernel_rfl) (by kernel_rfl) (by kernel_rfl) (fun _ _ _ h => h) (Or.inr ⟨by kernel_rfl, rfl⟩) (by first | exact M.out | exact M.out.take 7) ?_
            try simp only [Act.put, List.getElem_toArray, List.getElem_cons_succ, List.getElem_cons_zero, List.setIfInBounds_toArray, List.set_cons_succ, List.set_cons_zero]
            refine wpAnyH_take (i := 20) (v := undef) rfl (by kernel_rfl) (by kernel_rfl) (by kernel_rfl) (fun _ _ _ h => h) (Or.inr ⟨by kernel_rfl, rfl⟩) (by first | exact M.out | exact M.out.take 7) ?_
            try simp only [Act.put, List.getElem_toArray, List.getElem_cons_succ, List.getElem_cons_zero, List.setIfInBounds_toArray, List.set_cons_succ, List.set_cons_zero]
            refine wpAnyH_take (i := 21) (v := undef) rfl (by kernel_rfl) (by kernel_rfl) (by kernel_rfl) (fun _ _ _ h => h) (Or.inr ⟨by kernel_rfl, rfl⟩) (by first | exact M.out | exact M.out.take 7) ?_
            try simp only [Act.put, List.getElem_toArray, List.getElem_cons_succ, List.getElem_cons_zero, List.setIfInBounds_toArray, List.set_cons_succ, List.set_cons_zero]
            refine wpAnyH_take (i := 22) (v := undef) rfl (by kernel_rfl) (by kernel_rfl) (by kernel_rfl) (fun _ _ _ h => h) (Or.inr ⟨by kernel_rfl, rfl⟩) (by first | exact M.out | exact M.out.take 7) ?_
            try simp only [Act.put, List.getElem_toArray, List.getElem_cons_succ, List.getElem_cons_zero, List.setIfInBounds_toArray, List.set_cons_succ, List.set_cons_zero]
            refine wpAnyH_take (i := 23) (v := undef) rfl (by kernel_rfl) (by kernel_rfl) (by kernel_rfl) (fun _ _ _ h => h) (Or.inr ⟨by kernel_rfl, rfl⟩) (by first | exact M.out | exact M.out.take 7) ?_
            try simp only [Act.put, List.getElem_toArray, List.getElem_cons_succ, List.getElem_cons_zero, List.setIfInBounds_toArray, List.set_cons_succ, List.set_cons_zero]
            apply takeH (i := 24) 258 rfl (by kernel_rfl) (by kernel_rfl) (by kernel_rfl) (fun _ _ _ h => h) rfl (by first | exact M.out | exact M.out.take 7)
            case' hy =>
              refine Or.inl ⟨by first | rfl | (go_simp; done), ?_⟩
              intro w hS
              clear hS
              go_simp
              try with_reducible rfl
            try simp only [Act.put, List.getElem_toArray, List.getElem_cons_succ, List.getElem_cons_zero, List.setIfInBounds_toArray, List.set_cons_succ, List.set_cons_zero]
            apply takeH (i := 25) 259 rfl (by kernel_rfl) (by kernel_rfl) (by kernel_rfl) (fun _ _ _ h => h) rfl (by first | exact M.out | exact M.out.take 7)
            case' hy =>
              refine Or.inl ⟨by first | rfl | (go_simp; done), ?_⟩
              intro w hS
              clear hS
              go_simp
              try with_reducible rfl
            try simp only [Act.put, List.getElem_toArray, List.getElem_cons_succ, List.getElem_cons_zero, List.setIfInBounds_toArray, List.set_cons_succ, List.set_cons_zero]
            apply takeH (i := 26) 260 rfl (by kernel_rfl) (by kernel_rfl) (by kernel_rfl) (fun _ _ _ h => h) rfl (by first | exact M.out | exact M.out.take 7)
            case' hy =>
              refine Or.inl ⟨by first | rfl | (go_simp; done), ?_⟩
              intro w hS
              clear hS
              go_simp
              try with_reducible rfl
            try simp only [Act.put, List.getElem_toArray, List.getElem_cons_succ, List.getElem_cons_zero, List.setIfInBounds_toArray, List.set_cons_succ, List.set_cons_zero]
            apply takeH (i := 27) 261 rfl (by kernel_rfl) (by kernel_rfl) (by kernel_rfl) (fun _ _ _ h => h) rfl (by first | exact M.out | exact M.out.take 7)
            case' hy =>
              refine Or.inl ⟨by first | rfl | (go_simp; done), ?_⟩
              intro w hS
              clear hS
              go_simp
              try with_reducible rfl
            try simp only [Act.put, List.getElem_toArray, List.getElem_cons_succ, List.getElem_cons_zero, List.setIfInBounds_toArray, List.set_cons_succ, List.set_cons_zero]
            apply takeH (i := 28) 262 rfl (by kernel_rfl) (by kernel_rfl) (by kernel_rfl) (fun _ _ _ h => h) rfl (by first | exact M.out | exact M.out.take 7)
            case' hy => exact yldsW _ _ rfl (by first | rfl | (go_simp; done)) Try.underlying26 rfl rfl (fun w' hS => hS.cell 6 rfl (by first | assumption | rfl))
            try simp only [Act.put, List.getElem_toArray, List.getElem_cons_succ, List.getElem_cons_zero, List.setIfInBounds_toArray, List.set_cons_succ, List.set_cons_zero]
            apply takeH (i := 29) 263 rfl (by kernel_rfl) (by kernel_rfl) (by kernel_rfl) (fun _ _ _ h => h) rfl (by first | exact M.out | exact M.out.take 7)
            case' hy =>
              refine Or.inl ⟨by first | rfl | (go_simp; done), ?_⟩
              intro w hS
              clear hS
              go_simp
              try with_reducible rfl
            try simp only [Act.put, List.getElem_toArray, List.getElem_cons_succ, List.getElem_cons_zero, List.setIfInBounds_toArray, List.set_cons_succ, List.set_cons_zero]
            apply takeH (i := 30) 264 rfl (by kernel_rfl) (by kernel_rfl) (by kernel_rfl) (fun _ _ _ h => h) rfl (by first | exact M.out | exact M.out.take 7)
            case' hy =>
              refine Or.inl ⟨by first | rfl | (go_simp; done), ?_⟩
              intro w hS
              clear hS
              go_simp
              try with_reducible rfl
            try simp only [Act.put, List.getElem_toArray, List.getElem_cons_succ, List.getElem_cons_zero, List.setIfInBounds_toArray, List.set_cons_succ, List.set_cons_zero]
            apply takeH (i := 31) 265 rfl (by kernel_rfl) (by kernel_rfl) (by kernel_rfl) (fun _ _ _ h => h) rfl (by first | exact M.out | exact M.out.take 7)
            case' hy =>
              refine Or.inl ⟨by first | rfl | (go_simp; done), ?_⟩
              intro w hS
              clear hS
              go_simp
              try with_reducible rfl
            try simp only [Act.put, List.getElem_toArray, List.getElem_cons_succ, List.getElem_cons_zero, List.setIfInBounds_toArray, List.set_cons_succ, List.set_cons_zero]
            apply takeH (i := 32) 266 rfl (by kernel_rfl) (by kernel_rfl) (by kernel_rfl) (fun _ _ _ h => h) rfl (by first | exact M.out | exact M.out.take 7)
            case' hy => exact yldwW _ _ rfl (by first | rfl | (go_simp; done)) Try.underlying29 rfl (by first | exact sz29 | (rw [S1.out]; exact sz29) | (rw [S2.out]; exact sz29) | (rw [S3.out]; exact sz29)) rfl (fun w' hS => hS.blk 0 rfl)
            try simp only [Act.put, List.getElem_toArray, List.getElem_cons_succ, List.getElem_cons_zero, List.setIfInBounds_toArray, List.set_cons_succ, List.set_cons_zero]
            apply takeH (i := 33) 267 rfl (by kernel_rfl) (by kernel_rfl) (by kernel_rfl) (fun _ _ _ h => h) rfl (by first | exact M.out | exact M.out.take 7)
            case' hy =>
              refine Or.inl ⟨by first | rfl | (go_simp; done), ?_⟩
              intro w hS
              clear hS
              go_simp
              try with_reducible rfl
            try simp only [Act.put, List.getElem_toArray, List.getElem_cons_succ, List.getElem_cons_zero, List.setIfInBounds_toArray, List.set_cons_succ, List.set_cons_zero]
            apply takeH (i := 34) 268 rfl (by kernel_rfl) (by kernel_rfl) (by kernel_rfl) (fun _ _ _ h => h) rfl (by first | exact M.out | exact M.out.take 7)
            case' hy => exact yldsW _ _ rfl (by first | rfl | (go_simp; done)) Try.underlying26 rfl rfl (fun w' hS => hS.cell 6 rfl (by first | assumption | rfl))
            try simp only [Act.put, List.getElem_toArray, List.getElem_cons_succ, List.getElem_cons_zero, List.setIfInBounds_toArray, List.set_cons_succ, List.set_cons_zero]
            apply takeH (i := 35) 269 rfl (by kernel_rfl) (by kernel_rfl) (by kernel_rfl) (fun _ _ _ h => h) rfl (by first | exact M.out | exact M.out.take 7)
            case' hy =>
              refine Or.inl ⟨by first | rfl | (go_simp; done), ?_⟩
              intro w hS
              clear hS
              go_simp
              try with_reducible rfl
            try simp only [Act.put, List.getElem_toArray, List.getElem_cons_succ, List.getElem_cons_zero, List.setIfInBounds_toArray, List.set_cons_succ, List.set_cons_zero]
            refine any1H 36 (by kernel_rfl) rfl (fun K hK => ?_)
            go_wp2_with (first | ((with_reducible refine gate_dst (N := 235) rfl ?_); go_must (refine M.out.ev_ld 6 _ _ rfl rfl rfl Try.underlying24 rfl rfl (by first | assumption | rfl) ?_)) | (go_at_call 17; go_must (refine (A2Is_any F WF.out.ok (c : Int) _).mono ?_); rintro e w_ ⟨rfl, N_⟩; have m := M.out.join N_; clear N_; simp only [List.cons_append, List.nil_append, List.append_nil] at m; have M := Lib.hid m; clear m; rw [HHC.out]))
            refine onward_normal (hK _ _ ⟨(by first | exact M.out | exact M.out.take 7), ?_⟩)
            clear hK K
            try simp only [Act.put, List.getElem_toArray, List.getElem_cons_succ, List.getElem_cons_zero, List.setIfInBounds_toArray, List.set_cons_succ, List.set_cons_zero]
            apply takeH (i := 37) 271 rfl (by kernel_rfl) (by kernel_rfl) (by kernel_rfl) (fun _ _ _ h => h) rfl (by first | exact M.out | exact M.out.take 7)
            case' hy =>
              refine Or.inl ⟨by first | rfl | (go_simp; done), ?_⟩
              intro w hS
              clear hS
              go_simp
              try with_reducible rfl
            try simp only [Act.put, List.getElem_toArray, List.getElem_cons_succ, List.getElem_cons_zero, List.setIfInBounds_toArray, List.set_cons_succ, List.set_cons_zero]
            apply takeH (i := 38) 272 rfl (by kernel_rfl) (by kernel_rfl) (by kernel_rfl) (fun _ _ _ h => h) rfl (by first | exact M.out | exact M.out.take 7)
            case' hy =>
              refine Or.inl ⟨by first | rfl | (go_simp; done), ?_⟩
              intro w hS
              clear hS
              go_simp
              try with_reducible rfl
            try simp only [Act.put, List.getElem_toArray, List.getElem_cons_succ, List.getElem_cons_zero, List.setIfInBounds_toArray, List.set_cons_succ, List.set_cons_zero]
            apply takeH (i := 39) 273 rfl (by kernel_rfl) (by kernel_rfl) (by kernel_rfl) (fun _ _ _ h => h) rfl (by first | exact M.out | exact M.out.take 7)
            case' hy =>
              refine Or.inl ⟨by first | rfl | (go_simp; done), ?_⟩
              intro w hS
              clear hS
              go_simp
              try with_reducible rfl
            try simp only [Act.put, List.getElem_toArray, List.getElem_cons_succ, List.getElem_cons_zero, List.setIfInBounds_toArray, List.set_cons_succ, List.set_cons_zero]
            apply takeH (i := 40) 274 rfl (by kernel_rfl) (by kernel_rfl) (by kernel_rfl) (fun _ _ _ h => h) rfl (by first | exact M.out | exact M.out.take 7)
            case' hy =>
              refine Or.inl ⟨by first | rfl | (go_simp; done), ?_⟩
              intro w hS
              clear hS
              go_simp
              try with_reducible rfl
            try simp only [Act.put, List.getElem_toArray, List.getElem_cons_succ, List.getElem_cons_zero, List.setIfInBounds_toArray, List.set_cons_succ, List.set_cons_zero]
            apply takeH (i := 41) 275 rfl (by kernel_rfl) (by kernel_rfl) (by kernel_rfl) (fun _ _ _ h => h) rfl (by first | exact M.out | exact M.out.take 7)
            case' hy => exact yldsW _ _ rfl (by first | rfl | (go_simp; done)) Try.underlying26 rfl rfl (fun w' hS => hS.cell 6 rfl (by first | assumption | rfl))
            try simp only [Act.put, List.getElem_toArray, List.getElem_cons_succ, List.getElem_cons_zero, List.setIfInBounds_toArray, List.set_cons_succ, List.set_cons_zero]
            apply takeH (i := 42) 276 rfl (by kernel_rfl) (by kernel_rfl) (by kernel_rfl) (fun _ _ _ h => h) rfl (by first | exact M.out | exact M.out.take 7)
            case' hy =>
              refine Or.inl ⟨by first | rfl | (go_simp; done), ?_⟩
              intro w hS
              clear hS
              go_simp
              try with_reducible rfl
            try simp only [Act.put, List.getElem_toArray, List.getElem_cons_succ, List.getElem_cons_zero, List.setIfInBounds_toArray, List.set_cons_succ, List.set_cons_zero]
            apply takeH (i := 43) 277 rfl (by kernel_rfl) (by kernel_rfl) (by kernel_rfl) (fun _ _ _ h => h) rfl (by first | exact M.out | exact M.out.take 7)
            case' hy =>
              refine Or.inl ⟨by first | rfl | (go_simp; done), ?_⟩
              intro w hS
              clear hS
              go_simp
              try with_reducible rfl
            try simp only [Act.put, List.getElem_toArray, List.getElem_cons_succ, List.getElem_cons_zero, List.setIfInBounds_toArray, List.set_cons_succ, List.set_cons_zero]
            apply takeH (i := 44) 278 rfl (by kernel_rfl) (by kernel_rfl) (by kernel_rfl) (fun _ _ _ h => h) rfl (by first | exact M.out | exact M.out.take 7)
            case' hy => exact yldsW _ _ rfl (by first | rfl | (go_simp; done)) Try.underlying26 rfl rfl (fun w' hS => hS.cell 5 rfl KN.out)
            try simp only [Act.put, List.getElem_toArray, List.getElem_cons_succ, List.getElem_cons_zero, List.setIfInBounds_toArray, List.set_cons_succ, List.set_cons_zero]
            apply takeH (i := 45) 279 rfl (by kernel_rfl) (by kernel_rfl) (by kernel_rfl) (fun _ _ _ h => h) rfl (by first | exact M.out | exact M.out.take 7)
            case' hy =>
              refine Or.inl ⟨by first | rfl | (go_simp; done), ?_⟩
              intro w hS
              clear hS
              go_simp
              try with_reducible rfl
            try simp only [Act.put, List.getElem_toArray, List.getElem_cons_succ, List.getElem_cons_zero, List.setIfInBounds_toArray, List.set_cons_succ, List.set_cons_zero]
            apply takeH (i := 46) 280 rfl (by kernel_rfl) (by kernel_rfl) (by kernel_rfl) (fun _ _ _ h => h) rfl (by first | exact M.out | exact M.out.take 7)
            case' hy => exact yldsW _ _ rfl (by first | rfl | (go_simp; done)) Try.underlying26 rfl rfl (fun w' hS => hS.cell 6 rfl (by first | assumption | rfl))
            try simp only [Act.put, List.getElem_toArray, List.getElem_cons_succ, List.getElem_cons_zero, List.setIfInBounds_toArray, List.set_cons_succ, List.set_cons_zero]
            apply takeH (i := 47) 281 rfl (by kernel_rfl) (by kernel_rfl) (by kernel_rfl) (fun _ _ _ h => h) rfl (by first | exact M.out | exact M.out.take 7)
            case' hy =>
              refine Or.inl ⟨by first | rfl | (go_simp; done), ?_⟩
              intro w hS
              clear hS
              go_simp
              try with_reducible rfl
            try simp only [Act.put, List.getElem_toArray, List.getElem_cons_succ, List.getElem_cons_zero, List.setIfInBounds_toArray, List.set_cons_succ, List.set_cons_zero]
            apply takeH (i := 48) 282 rfl (by kernel_rfl) (by kernel_rfl) (by kernel_rfl) (fun _ _ _ h => h) rfl (by first | exact M.out | exact M.out.take 7)
            case' hy =>
              refine Or.inl ⟨by first | rfl | (go_simp; done), ?_⟩
              intro w hS
              clear hS
              go_simp
              try with_reducible rfl
            try simp only [Act.put, List.getElem_toArray, List.getElem_cons_succ, List.getElem_cons_zero, List.setIfInBounds_toArray, List.set_cons_succ, List.set_cons_zero]
            apply takeH (i := 49) 283 rfl (by kernel_rfl) (by kernel_rfl) (by kernel_rfl) (fun _ _ _ h => h) rfl (by first | exact M.out | exact M.out.take 7)
            case' hy =>
              refine Or.inl ⟨by first | rfl | (go_simp; done), ?_⟩
              intro w hS
              clear hS
              go_simp
              try with_reducible rfl
            try simp only [Act.put, List.getElem_toArray, List.getElem_cons_succ, List.getElem_cons_zero, List.setIfInBounds_toArray, List.set_cons_succ, List.set_cons_zero]
            apply takeH (i := 50) 284 rfl (by kernel_rfl) (by kernel_rfl) (by kernel_rfl) (fun _ _ _ h => h) rfl (by first | exact M.out | exact M.out.take 7)
            case' hy =>
              refine Or.inl ⟨by first | rfl | (go_simp; done), ?_⟩
              intro w hS
              clear hS
              go_simp
              try with_reducible rfl
            try simp only [Act.put, List.getElem_toArray, List.getElem_cons_succ, List.getElem_cons_zero, List.setIfInBounds_toArray, List.set_cons_succ, List.set_cons_zero]
            apply takeH (i := 51) 285 rfl (by kernel_rfl) (by kernel_rfl) (by kernel_rfl) (fun _ _ _ h => h) rfl (by first | exact M.out | exact M.out.take 7)
            case' hy => exact yldsW _ _ rfl (by first | rfl | (go_simp; done)) Try.underlying26 rfl rfl (fun w' hS => hS.cell 6 rfl (by first | assumption | rfl))
            try simp only [Act.put, List.getElem_toArray, List.getElem_cons_succ, List.getElem_cons_zero, List.setIfInBounds_toArray, List.set_cons_succ, List.set_cons_zero]
            apply takeH (i := 52) 286 rfl (by kernel_rfl) (by kernel_rfl) (by kernel_rfl) (fun _ _ _ h => h) rfl (by first | exact M.out | exact M.out.take 7)
            case' hy =>
              refine Or.inl ⟨by first | rfl | (go_simp; done), ?_⟩
              intro w hS
              clear hS
              go_simp
              try with_reducible rfl
            try simp only [Act.put, List.getElem_toArray, List.getElem_cons_succ, List.getElem_cons_zero, List.setIfInBounds_toArray, List.set_cons_succ, List.set_cons_zero]
            apply takeH (i := 53) 287 rfl (by kernel_rfl) (by kernel_rfl) (by kernel_rfl) (fun _ _ _ h => h) rfl (by first | exact M.out | exact M.out.take 7)
            case' hy => exact yldsW _ _ rfl (by first | rfl | (go_simp; done)) Try.underlying26 rfl rfl (fun w' hS => hS.cell 1 rfl KF.out)
            try simp only [Act.put, List.getElem_toArray, List.getElem_cons_succ, List.getElem_cons_zero, List.setIfInBounds_toArray, List.set_cons_succ, List.set_cons_zero]
            apply takeH (i := 54) 288 rfl (by kernel_rfl) (by kernel_rfl) (by kernel_rfl) (fun _ _ _ h => h) rfl (by first | exact M.out | exact M.out.take 7)
            case' hy =>
              refine Or.inl ⟨by first | rfl | (go_simp; done), ?_⟩
              intro w hS
              clear hS
              go_simp
              try with_reducible rfl
            try simp only [Act.put, List.getElem_toArray, List.getElem_cons_succ, List.getElem_cons_zero, List.setIfInBounds_toArray, List.set_cons_succ, List.set_cons_zero]
            apply takeH (i := 55) 289 rfl (by kernel_rfl) (by kernel_rfl) (by kernel_rfl) (fun _ _ _ h => h) rfl (by first | exact M.out | exact M.out.take 7)
            case' hy =>
              refine Or.inl ⟨by first | rfl | (go_simp; done), ?_⟩
              intro w hS
              clear hS
              go_simp
              try with_reducible rfl
            try simp only [Act.put, List.getElem_toArray, List.getElem_cons_succ, List.getElem_cons_zero, List.setIfInBounds_toArray, List.set_cons_succ, List.set_cons_zero]
            apply takeH (i := 56) 290 rfl (by kernel_rfl) (by kernel_rfl) (by kernel_rfl) (fun _ _ _ h => h) rfl (by first | exact M.out | exact M.out.take 7)
            case' hy => exact yldsW _ _ rfl (by first | rfl | (go_simp; done)) Try.underlying24 rfl rfl (fun w' hS => hS.cell 6 rfl (by first | assumption | rfl))
            try simp only [Act.put, List.getElem_toArray, List.getElem_cons_succ, List.getElem_cons_zero, List.setIfInBounds_toArray, List.set_cons_succ, List.set_cons_zero]
            apply takeH (i := 57) 291 rfl (by kernel_rfl) (by kernel_rfl) (by kernel_rfl) (fun _ _ _ h => h) rfl (by first | exact M.out | exact M.out.take 7)
            case' hy =>
              refine Or.inl ⟨by first | rfl | (go_simp; done), ?_⟩
              intro w hS
              clear hS
              go_simp
              try with_reducible rfl
            try simp only [Act.put, List.getElem_toArray, List.getElem_cons_succ, List.getElem_cons_zero, List.setIfInBounds_toArray, List.set_cons_succ, List.set_cons_zero]
            apply takeH (i := 58) 292 rfl (by kernel_rfl) (by kernel_rfl) (by kernel_rfl) (fun _ _ _ h => h) rfl (by first | exact M.out | exact M.out.take 7)
            case' hy =>
              refine Or.inl ⟨by first | rfl | (go_simp; done), ?_⟩
              intro w hS
              clear hS
              go_simp
              try with_reducible rfl
            try simp only [Act.put, List.getElem_toArray, List.getElem_cons_succ, List.getElem_cons_zero, List.setIfInBounds_toArray, List.set_cons_succ, List.set_cons_zero]
            apply takeH (i := 59) 293 rfl (by kernel_rfl) (by kernel_rfl) (by kernel_rfl) (fun _ _ _ h => h) rfl (by first | exact M.out | exact M.out.take 7)
            case' hy => exact yldsW _ _ rfl (by first | rfl | (go_simp; done)) Try.underlying26 rfl rfl (fun w' hS => range_at Flock.vl (sl_rangeFlock (hS.slof 2 rfl) hil) HXI.out 3 _ rfl)
            try simp only [Act.put, List.getElem_toArray, List.getElem_cons_succ, List.getElem_cons_zero, List.setIfInBounds_toArray, List.set_cons_succ, List.set_cons_zero]
            apply takeH (i := 60) 294 rfl (by kernel_rfl) (by kernel_rfl) (by kernel_rfl) (fun _ _ _ h => h) rfl (by first | exact M.out | exact M.out.take 7)
            case' hy =>
              refine Or.inl ⟨by first | rfl | (go_simp; done), ?_⟩
              intro w hS
              clear hS
              go_simp
              try with_reducible rfl
            try simp only [Act.put, List.getElem_toArray, List.getElem_cons_succ, List.getElem_cons_zero, List.setIfInBounds_toArray, List.set_cons_succ, List.set_cons_zero]
            apply takeH (i := 61) 295 rfl (by kernel_rfl) (by kernel_rfl) (by kernel_rfl) (fun _ _ _ h => h) rfl (by first | exact M.out | exact M.out.take 7)
            case' hy =>
              refine Or.inl ⟨by first | rfl | (go_simp; done), ?_⟩
              intro w hS
              clear hS
              go_simp
              try with_reducible rfl
            try simp only [Act.put, List.getElem_toArray, List.getElem_cons_succ, List.getElem_cons_zero, List.setIfInBounds_toArray, List.set_cons_succ, List.set_cons_zero]
            refine wpAnyH_done (by kernel_rfl) ?_ _
            go_wp2
            refine region_any (by kernel_rfl) ?_
            have m := M.out.drew
            clear M
            have M := Lib.hid m
            clear m
            apply takeD (i := 0) 296 rfl (by kernel_rfl) (by kernel_rfl) (by kernel_rfl) (fun _ _ _ h => h) rfl
            case' hy =>
              refine Or.inl ⟨by first | rfl | (go_simp; done), ?_⟩
              intro w
              go_simp
              try with_reducible rfl
            try simp only [Act.put, List.setIfInBounds_toArray, List.set_cons_succ, List.set_cons_zero]
            apply takeD (i := 2) 298 rfl (by kernel_rfl) (by kernel_rfl) (by kernel_rfl) (fun _ _ _ h => h) rfl
            case' hy =>
              refine Or.inl ⟨by first | rfl | (go_simp; done), ?_⟩
              intro w
              go_simp
              try with_reducible rfl
            try simp only [Act.put, List.setIfInBounds_toArray, List.set_cons_succ, List.set_cons_zero]
            apply takeD (i := 5) 301 rfl (by kernel_rfl) (by kernel_rfl) (by kernel_rfl) (fun _ _ _ h => h) rfl
            case' hy =>
              refine Or.inl ⟨by first | rfl | (go_simp; done), ?_⟩
              intro w
              go_simp
              try with_reducible rfl
            try simp only [Act.put, List.setIfInBounds_toArray, List.set_cons_succ, List.set_cons_zero]
            apply takeD (i := 8) 304 rfl (by kernel_rfl) (by kernel_rfl) (by kernel_rfl) (fun _ _ _ h => h) rfl
            case' hy =>
              refine Or.inl ⟨by first | rfl | (go_simp; done), ?_⟩
              intro w
              go_simp
              try with_reducible rfl
            try simp only [Act.put, List.setIfInBounds_toArray, List.set_cons_succ, List.set_cons_zero]
            refine any2k 1 6 (by kernel_rfl) rfl rfl (fun K hK => ?_) (fun K hK => ?_)
            rotate_right 1
            case' _ =>
              go_wp2_with (first | ((with_reducible refine gate_dst (N := 297) rfl ?_); go_must (refine M.out.ev_ld 6 _ _ rfl rfl rfl Try.underlying26 rfl rfl rfl ?_)) | ((with_reducible refine gate_dst (N := 300) rfl ?_); go_must (refine M.out.ev_ld 5 _ _ rfl rfl rfl Try.underlying26 rfl rfl KN.out ?_)) | ((with_reducible refine gate_dst (N := 302) rfl ?_); go_must (refine M.out.ev_ld 6 _ _ rfl rfl rfl Try.underlying26 rfl rfl rfl ?_)) | ((with_reducible refine gate_store (x := .tmp 305) rfl ?_); go_must (refine M.out.ev_put 5 _ _ _ rfl rfl rfl rfl (.int .i16 (sd - q)) rfl SZN.out sz26 rfl rfl ?_); intro wn m; simp only [List.set_cons_succ, List.set_cons_zero, HST.out] at m; have M := Lib.hid m; clear m))
              refine onward_normal (hK _ _ ?_)
              clear hK K
              try simp only [Act.put, List.getElem_toArray, List.getElem_cons_succ, List.getElem_cons_zero, List.setIfInBounds_toArray, List.set_cons_succ, List.set_cons_zero]
              refine any1k 1 (by kernel_rfl) rfl (fun K hK => ?_)
              go_wp2_with (first | ((with_reducible refine gate_dst (N := 297) rfl ?_); go_must (refine M.out.ev_ld 6 _ _ rfl rfl rfl Try.underlying26 rfl rfl rfl ?_)) | ((with_reducible refine gate_dst (N := 300) rfl ?_); go_must (refine M.out.ev_ld 5 _ _ rfl rfl rfl Try.underlying26 rfl rfl KN.out ?_)) | ((with_reducible refine gate_dst (N := 302) rfl ?_); go_must (refine M.out.ev_ld 6 _ _ rfl rfl rfl Try.underlying26 rfl rfl rfl ?_)) | ((with_reducible refine gate_store (x := .tmp 305) rfl ?_); go_must (refine M.out.ev_put 5 _ _ _ rfl rfl rfl rfl (.int .i16 (sd - q)) rfl SZN.out sz26 rfl rfl ?_); intro wn m; simp only [List.set_cons_succ, List.set_cons_zero, HST.out] at m; have M := Lib.hid m; clear m))
              refine onward_normal (hK _ _ ?_)
              clear hK K
              try simp only [Act.put, List.getElem_toArray, List.getElem_cons_succ, List.getElem_cons_zero, List.setIfInBounds_toArray, List.set_cons_succ, List.set_cons_zero]
              refine any1k 3 (by kernel_rfl) rfl (fun K hK => ?_)
              go_wp2
              refine onward_normal (hK _ _ ?_)
              clear hK K
              try simp only [Act.put, List.getElem_toArray, List.getElem_cons_succ, List.getElem_cons_zero, List.setIfInBounds_toArray, List.set_cons_succ, List.set_cons_zero]
              refine any1k 4 (by kernel_rfl) rfl (fun K hK => ?_)
              go_wp2_with (first | ((with_reducible refine gate_dst (N := 297) rfl ?_); go_must (refine M.out.ev_ld 6 _ _ rfl rfl rfl Try.underlying26 rfl rfl rfl ?_)) | ((with_reducible refine gate_dst (N := 300) rfl ?_); go_must (refine M.out.ev_ld 5 _ _ rfl rfl rfl Try.underlying26 rfl rfl KN.out ?_)) | ((with_reducible refine gate_dst (N := 302) rfl ?_); go_must (refine M.out.ev_ld 6 _ _ rfl rfl rfl Try.underlying26 rfl rfl rfl ?_)) | ((with_reducible refine gate_store (x := .tmp 305) rfl ?_); go_must (refine M.out.ev_put 5 _ _ _ rfl rfl rfl rfl (.int .i16 (sd - q)) rfl SZN.out sz26 rfl rfl ?_); intro wn m; simp only [List.set_cons_succ, List.set_cons_zero, HST.out] at m; have M := Lib.hid m; clear m))
              refine onward_normal (hK _ _ ?_)
              clear hK K
              try simp only [Act.put, List.getElem_toArray, List.getElem_cons_succ, List.getElem_cons_zero, List.setIfInBounds_toArray, List.set_cons_succ, List.set_cons_zero]
              refine any1k 7 (by kernel_rfl) rfl (fun K hK => ?_)
              go_wp2
              refine onward_normal (hK _ _ ?_)
              clear hK K
              try simp only [Act.put, List.getElem_toArray, List.getElem_cons_succ, List.getElem_cons_zero, List.setIfInBounds_toArray, List.set_cons_succ, List.set_cons_zero]
              refine any1k 9 (by kernel_rfl) rfl (fun K hK => ?_)
              go_wp2
              refine onward_normal (hK _ _ ?_)
              clear hK K
              try simp only [Act.put, List.getElem_toArray, List.getElem_cons_succ, List.getElem_cons_zero, List.setIfInBounds_toArray, List.set_cons_succ, List.set_cons_zero]
              refine any1k 10 (by kernel_rfl) rfl (fun K hK => ?_)
              go_wp2_with (first | ((with_reducible refine gate_dst (N := 297) rfl ?_); go_must (refine M.out.ev_ld 6 _ _ rfl rfl rfl Try.underlying26 rfl rfl rfl ?_)) | ((with_reducible refine gate_dst (N := 300) rfl ?_); go_must (refine M.out.ev_ld 5 _ _ rfl rfl rfl Try.underlying26 rfl rfl KN.out ?_)) | ((with_reducible refine gate_dst (N := 302) rfl ?_); go_must (refine M.out.ev_ld 6 _ _ rfl rfl rfl Try.underlying26 rfl rfl rfl ?_)) | ((with_reducible refine gate_store (x := .tmp 305) rfl ?_); go_must (refine M.out.ev_put 5 _ _ _ rfl rfl rfl rfl (.int .i16 (sd - q)) rfl SZN.out sz26 rfl rfl ?_); intro wn m; simp only [List.set_cons_succ, List.set_cons_zero, HST.out] at m; have M := Lib.hid m; clear m))
              refine onward_normal (hK _ _ ?_)
              clear hK K
              try simp only [Act.put, List.getElem_toArray, List.getElem_cons_succ, List.getElem_cons_zero, List.setIfInBounds_toArray, List.set_cons_succ, List.set_cons_zero]
              refine wpAny_done (by kernel_rfl) ?_ _
            rotate_right 1
            case' _ =>
              go_wp2_with (first | ((with_reducible refine gate_dst (N := 297) rfl ?_); go_must (refine M.out.ev_ld 6 _ _ rfl rfl rfl Try.underlying26 rfl rfl rfl ?_)) | ((with_reducible refine gate_dst (N := 300) rfl ?_); go_must (refine M.out.ev_ld 5 _ _ rfl rfl rfl Try.underlying26 rfl rfl KN.out ?_)) | ((with_reducible refine gate_dst (N := 302) rfl ?_); go_must (refine M.out.ev_ld 6 _ _ rfl rfl rfl Try.underlying26 rfl rfl rfl ?_)) | ((with_reducible refine gate_store (x := .tmp 305) rfl ?_); go_must (refine M.out.ev_put 5 _ _ _ rfl rfl rfl rfl (.int .i16 (sd - q)) rfl SZN.out sz26 rfl rfl ?_); intro wn m; simp only [List.set_cons_succ, List.set_cons_zero, HST.out] at m; have M := Lib.hid m; clear m))
              refine onward_normal (hK _ _ ?_)
              clear hK K
              try simp only [Act.put, List.getElem_toArray, List.getElem_cons_succ, List.getElem_cons_zero, List.setIfInBounds_toArray, List.set_cons_succ, List.set_cons_zero]
              apply takeD (i := 3) 299 rfl (by kernel_rfl) (by kernel_rfl) (by kernel_rfl) (fun _ _ _ h => h) rfl
              case' hy =>
                refine Or.inl ⟨by first | rfl | (go_simp; done), ?_⟩
                intro w
                go_simp
                try with_reducible rfl
              try simp only [Act.put, List.setIfInBounds_toArray, List.set_cons_succ, List.set_cons_zero]
              refine any2k 4 6 (by kernel_rfl) rfl rfl (fun K hK => ?_) (fun K hK => ?_)
              rotate_right 1
              case' _ =>
                go_wp2_with (first | ((with_reducible refine gate_dst (N := 297) rfl ?_); go_must (refine M.out.ev_ld 6 _ _ rfl rfl rfl Try.underlying26 rfl rfl rfl ?_)) | ((with_reducible refine gate_dst (N := 300) rfl ?_); go_must (refine M.out.ev_ld 5 _ _ rfl rfl rfl Try.underlying26 rfl rfl KN.out ?_)) | ((with_reducible refine gate_dst (N := 302) rfl ?_); go_must (refine M.out.ev_ld 6 _ _ rfl rfl rfl Try.underlying26 rfl rfl rfl ?_)) | ((with_reducible refine gate_store (x := .tmp 305) rfl ?_); go_must (refine M.out.ev_put 5 _ _ _ rfl rfl rfl rfl (.int .i16 (sd - q)) rfl SZN.out sz26 rfl rfl ?_); intro wn m; simp only [List.set_cons_succ, List.set_cons_zero, HST.out] at m; have M := Lib.hid m; clear m))
                refine onward_normal (hK _ _ ?_)
                clear hK K
                try simp only [Act.put, List.getElem_toArray, List.getElem_cons_succ, List.getElem_cons_zero, List.setIfInBounds_toArray, List.set_cons_succ, List.set_cons_zero]
                refine any1k 4 (by kernel_rfl) rfl (fun K hK => ?_)
                go_wp2_with (first | ((with_reducible refine gate_dst (N := 297) rfl ?_); go_must (refine M.out.ev_ld 6 _ _ rfl rfl rfl Try.underlying26 rfl rfl rfl ?_)) | ((with_reducible refine gate_dst (N := 300) rfl ?_); go_must (refine M.out.ev_ld 5 _ _ rfl rfl rfl Try.underlying26 rfl rfl KN.out ?_)) | ((with_reducible refine gate_dst (N := 302) rfl ?_); go_must (refine M.out.ev_ld 6 _ _ rfl rfl rfl Try.underlying26 rfl rfl rfl ?_)) | ((with_reducible refine gate_store (x := .tmp 305) rfl ?_); go_must (refine M.out.ev_put 5 _ _ _ rfl rfl rfl rfl (.int .i16 (sd - q)) rfl SZN.out sz26 rfl rfl ?_); intro wn m; simp only [List.set_cons_succ, List.set_cons_zero, HST.out] at m; have M := Lib.hid m; clear m))
                refine onward_normal (hK _ _ ?_)
                clear hK K
                try simp only [Act.put, List.getElem_toArray, List.getElem_cons_succ, List.getElem_cons_zero, List.setIfInBounds_toArray, List.set_cons_succ, List.set_cons_zero]
                refine any1k 7 (by kernel_rfl) rfl (fun K hK => ?_)
                go_wp2
                refine onward_normal (hK _ _ ?_)
                clear hK K
                try simp only [Act.put, List.getElem_toArray, List.getElem_cons_succ, List.getElem_cons_zero, List.setIfInBounds_toArray, List.set_cons_succ, List.set_cons_zero]
                refine any1k 9 (by kernel_rfl) rfl (fun K hK => ?_)
                go_wp2
                refine onward_normal (hK _ _ ?_)
                clear hK K
                try simp only [Act.put, List.getElem_toArray, List.getElem_cons_succ, List.getElem_cons_zero, List.setIfInBounds_toArray, List.set_cons_succ, List.set_cons_zero]
                refine any1k 10 (by kernel_rfl) rfl (fun K hK => ?_)
                go_wp2_with (first | ((with_reducible refine gate_dst (N := 297) rfl ?_); go_must (refine M.out.ev_ld 6 _ _ rfl rfl rfl Try.underlying26 rfl rfl rfl ?_)) | ((with_reducible refine gate_dst (N := 300) rfl ?_); go_must (refine M.out.ev_ld 5 _ _ rfl rfl rfl Try.underlying26 rfl rfl KN.out ?_)) | ((with_reducible refine gate_dst (N := 302) rfl ?_); go_must (refine M.out.ev_ld 6 _ _ rfl rfl rfl Try.underlying26 rfl rfl rfl ?_)) | ((with_reducible refine gate_store (x := .tmp 305) rfl ?_); go_must (refine M.out.ev_put 5 _ _ _ rfl rfl rfl rfl (.int .i16 (sd - q)) rfl SZN.out sz26 rfl rfl ?_); intro wn m; simp only [List.set_cons_succ, List.set_cons_zero, HST.out] at m; have M := Lib.hid m; clear m))
                refine onward_normal (hK _ _ ?_)
                clear hK K
                try simp only [Act.put, List.getElem_toArray, List.getElem_cons_succ, List.getElem_cons_zero, List.setIfInBounds_toArray, List.set_cons_succ, List.set_cons_zero]
                refine wpAny_done (by kernel_rfl) ?_ _
              rotate_right 1
              case' _ =>
                go_wp2_with (first | ((with_reducible refine gate_dst (N := 297) rfl ?_); go_must (refine M.out.ev_ld 6 _ _ rfl rfl rfl Try.underlying26 rfl rfl rfl ?_)) | ((with_reducible refine gate_dst (N := 300) rfl ?_); go_must (refine M.out.ev_ld 5 _ _ rfl rfl rfl Try.underlying26 rfl rfl KN.out ?_)) | ((with_reducible refine gate_dst (N := 302) rfl ?_); go_must (refine M.out.ev_ld 6 _ _ rfl rfl rfl Try.underlying26 rfl rfl rfl ?_)) | ((with_reducible refine gate_store (x := .tmp 305) rfl ?_); go_must (refine M.out.ev_put 5 _ _ _ rfl rfl rfl rfl (.int .i16 (sd - q)) rfl SZN.out sz26 rfl rfl ?_); intro wn m; simp only [List.set_cons_succ, List.set_cons_zero, HST.out] at m; have M := Lib.hid m; clear m))
                refine onward_normal (hK _ _ ?_)
                clear hK K
                try simp only [Act.put, List.getElem_toArray, List.getElem_cons_succ, List.getElem_cons_zero, List.setIfInBounds_toArray, List.set_cons_succ, List.set_cons_zero]
                refine any1k 6 (by kernel_rfl) rfl (fun K hK => ?_)
                go_wp2_with (first | ((with_reducible refine gate_dst (N := 297) rfl ?_); go_must (refine M.out.ev_ld 6 _ _ rfl rfl rfl Try.underlying26 rfl rfl rfl ?_)) | ((with_reducible refine gate_dst (N := 300) rfl ?_); go_must (refine M.out.ev_ld 5 _ _ rfl rfl rfl Try.underlying26 rfl rfl KN.out ?_)) | ((with_reducible refine gate_dst (N := 302) rfl ?_); go_must (refine M.out.ev_ld 6 _ _ rfl rfl rfl Try.underlying26 rfl rfl rfl ?_)) | ((with_reducible refine gate_store (x := .tmp 305) rfl ?_); go_must (refine M.out.ev_put 5 _ _ _ rfl rfl rfl rfl (.int .i16 (sd - q)) rfl SZN.out sz26 rfl rfl ?_); intro wn m; simp only [List.set_cons_succ, List.set_cons_zero, HST.out] at m; have M := Lib.hid m; clear m))
                refine onward_normal (hK _ _ ?_)
                clear hK K
                try simp only [Act.put, List.getElem_toArray, List.getElem_cons_succ, List.getElem_cons_zero, List.setIfInBounds_toArray, List.set_cons_succ, List.set_cons_zero]
                refine any1k 7 (by kernel_rfl) rfl (fun K hK => ?_)
                go_wp2
                refine onward_normal (hK _ _ ?_)
                clear hK K
                try simp only [Act.put, List.getElem_toArray, List.getElem_cons_succ, List.getElem_cons_zero, List.setIfInBounds_toArray, List.set_cons_succ, List.set_cons_zero]
                refine any1k 9 (by kernel_rfl) rfl (fun K hK => ?_)
                go_wp2
                refine onward_normal (hK _ _ ?_)
                clear hK K
                try simp only [Act.put, List.getElem_toArray, List.getElem_cons_succ, List.getElem_cons_zero, List.setIfInBounds_toArray, List.set_cons_succ, List.set_cons_zero]
                refine any1k 10 (by kernel_rfl) rfl (fun K hK => ?_)
                go_wp2_with (first | ((with_reducible refine gate_dst (N := 297) rfl ?_); go_must (refine M.out.ev_ld 6 _ _ rfl rfl rfl Try.underlying26 rfl rfl rfl ?_)) | ((with_reducible refine gate_dst (N := 300) rfl ?_); go_must (refine M.out.ev_ld 5 _ _ rfl rfl rfl Try.underlying26 rfl rfl KN.out ?_)) | ((with_reducible refine gate_dst (N := 302) rfl ?_); go_must (refine M.out.ev_ld 6 _ _ rfl rfl rfl Try.underlying26 rfl rfl rfl ?_)) | ((with_reducible refine gate_store (x := .tmp 305) rfl ?_); go_must (refine M.out.ev_put 5 _ _ _ rfl rfl rfl rfl (.int .i16 (sd - q)) rfl SZN.out sz26 rfl rfl ?_); intro wn m; simp only [List.set_cons_succ, List.set_cons_zero, HST.out] at m; have M := Lib.hid m; clear m))
                refine onward_normal (hK _ _ ?_)
                clear hK K
                try simp only [Act.put, List.getElem_toArray, List.getElem_cons_succ, List.getElem_cons_zero, List.setIfInBounds_toArray, List.set_cons_succ, List.set_cons_zero]
                refine wpAny_done (by kernel_rfl) ?_ _
            all_goals
              go_wp2
              exact ⟨⟨k + 1, by omega, by go_num, by rw [HNX.out]; exact M.out.take 6⟩, by simp [intOf]; try omega⟩
        · as_aux_lemma =>
          obtain rfl : k = vs.length := by omega
          have i2 : ¬ ((vs.length : Int) < (vs.length : Int)) := by omega
          have HEND := (C.out.say.ch.at_ WF.out.ok WF.out.valid).1
          rw [HEND] at M
          have q1 := seedSum_b WF.out.ok 100
          have q2 := seedSum_b C.out.say.gok 100
          have w5 : IntKind.i64.wrap (seedSum F 100 - seedSum G 100) = seedSum F 100 - seedSum G 100 := IntWalk.i64_in _ (by omega)
          have heq := HQ.out
          clear HEND hlt
          go_wp2_with (first
            | ((with_reducible refine gate_dst (N := 306) rfl ?_); go_must (refine M.out.ev_ldw 5 _ _ rfl rfl rfl Try.underlying29 rfl (by rw [S2.out]; exact sz29) rfl ?_))
            | ((with_reducible refine gate_dst (N := 307) rfl ?_); go_must (refine M.out.ev_ldw 4 _ _ rfl rfl rfl Try.underlying29 rfl (by rw [S2.out]; exact sz29) rfl ?_))
            )
          have mm := M.out.only [0, 1, 2] (K := [_, _, _]) rfl (by decide)
          clear M heq S2
          have M := Lib.hid mm
          clear mm
          have hpos : 0 < xs.length := by omega
          have HX0 := Lib.hid C.out.xh
          have S2 := Lib.hid (Fld.size C.out.g1)
          have S3 := Lib.hid SF.out
          have SO := Lib.hid (Fld.size C.out.ol)
          have wl4 := C.out.wl
          have wl5 : ws.length ≤ 1048576 := by omega
          refine region_anyH (fun w' => Mem w w' [.blk g5 29 F.cells, .blk g6 31 (ints .i16 fs), .row (.slice (some ⟨xb, xo, none⟩) xs.length cp) 48 6 xs.length (flat Flock.vals xs)]) (by kernel_rfl) ?_
          have M9 := M.out.drew
          clear M
          apply merge3
          case hA =>
            intro REST0
            apply merge3
            case hA =>
              intro REST1
              have M := Lib.hid M9
              apply takeH (i := 0) 317 rfl (by kernel_rfl) (by kernel_rfl) (by kernel_rfl) (fun _ _ _ h => h) rfl (by first | exact M.out | exact M.out.take 3)
              case' hy => exact yldw _ _ rfl rfl Try.underlying29 rfl (by first | exact sz29 | (rw [S1.out]; exact sz29) | (rw [S2.out]; exact sz29) | (rw [S3.out]; exact sz29)) rfl (fun w' hS => hS.blk 0 rfl)
              try simp only [Act.put, List.getElem_toArray, List.getElem_cons_succ, List.getElem_cons_zero, List.setIfInBounds_toArray, List.set_cons_succ, List.set_cons_zero]
              apply takeH (i := 1) 318 rfl (by kernel_rfl) (by kernel_rfl) (by kernel_rfl) (fun _ _ _ h => h) rfl (by first | exact M.out | exact M.out.take 3)
              case' hy => exact yldw _ _ rfl rfl Try.underlying31 rfl (by first | exact sz31 | (rw [S1.out]; exact sz31) | (rw [S2.out]; exact sz31) | (rw [S3.out]; exact sz31)) rfl (fun w' hS => hS.blk 1 rfl)
              try simp only [Act.put, List.getElem_toArray, List.getElem_cons_succ, List.getElem_cons_zero, List.setIfInBounds_toArray, List.set_cons_succ, List.set_cons_zero]
              apply takeH (i := 2) 319 rfl (by kernel_rfl) (by kernel_rfl) (by kernel_rfl) (fun _ _ _ h => h) rfl (by first | exact M.out | exact M.out.take 3)
              case' hy =>
                refine Or.inl ⟨by first | rfl | (go_simp; done), ?_⟩
                intro w hS
                clear hS
                go_simp
                try with_reducible rfl
              try simp only [Act.put, List.getElem_toArray, List.getElem_cons_succ, List.getElem_cons_zero, List.setIfInBounds_toArray, List.set_cons_succ, List.set_cons_zero]
              apply takeH (i := 3) 320 rfl (by kernel_rfl) (by kernel_rfl) (by kernel_rfl) (fun _ _ _ h => h) rfl (by first | exact M.out | exact M.out.take 3)
              case' hy =>
                refine Or.inl ⟨by first | rfl | (go_simp; done), ?_⟩
                intro w hS
                clear hS
                go_simp
                try with_reducible rfl
              try simp only [Act.put, List.getElem_toArray, List.getElem_cons_succ, List.getElem_cons_zero, List.setIfInBounds_toArray, List.set_cons_succ, List.set_cons_zero]
              apply takeH (i := 4) 321 rfl (by kernel_rfl) (by kernel_rfl) (by kernel_rfl) (fun _ _ _ h => h) rfl (by first | exact M.out | exact M.out.take 3)
              case' hy => exact yieldsIf_load_mid (by first | rfl | (go_simp; done)) _ _ rfl _ _ rfl _ _ (fun w' hS => (show World.rangeAt w' xb xo x0.vals from by have h := range_at Flock.vl (sl_rangeFlock (hS.slof 2 rfl) hpos) HX0.out; rw [Nat.zero_mul, Nat.add_zero] at h; exact h)) Try.underlying48 rfl sz48
              try simp only [Act.put, List.getElem_toArray, List.getElem_cons_succ, List.getElem_cons_zero, List.setIfInBounds_toArray, List.set_cons_succ, List.set_cons_zero]
              refine any2H 5 10 (by kernel_rfl) rfl rfl (fun K hK => ?_) (fun K hK => ?_)
              rotate_right 1
              case' _ =>
                go_wp2_with (first | ((with_reducible refine gate_dst (N := 29) rfl ?_); go_must (refine M.out.ev_new rfl (by first | (go_simp; done) | (go_simp; rfl)) ?_); intro g29 w29 m; simp only [List.cons_append, List.nil_append] at m; have M := Lib.hid m; clear m; try have q5_0 := M.out.cell (j := 0) 5 rfl (by first | assumption | rfl); try have q5_2 := M.out.cell (j := 2) 5 rfl (by first | assumption | rfl); try have q5_1 := M.out.cell (j := 1) 5 rfl (by first | assumption | rfl)))
                refine onward_normal (hK _ _ ⟨(by first | exact M.out | exact M.out.take 3), ?_⟩)
                clear hK K
                try simp only [Act.put, List.getElem_toArray, List.getElem_cons_succ, List.getElem_cons_zero, List.setIfInBounds_toArray, List.set_cons_succ, List.set_cons_zero]
                refine any1H 5 (by kernel_rfl) rfl (fun K hK => ?_)
                go_wp2_with (first | (go_at_call 18; go_must (refine (C.out.ff _).mono ?_); rintro e w_ ⟨A322, c322, rfl, hc322, N_⟩; have m := M.out.join N_; clear N_; simp only [List.cons_append, List.nil_append, List.append_nil] at m; have M := Lib.hid m; clear m))
                refine onward_normal (hK _ _ ⟨(by first | exact M.out | exact M.out.take 3), ?_⟩)
                clear hK K
                try simp only [Act.put, List.getElem_toArray, List.getElem_cons_succ, List.getElem_cons_zero, List.setIfInBounds_toArray, List.set_cons_succ, List.set_cons_zero]
                apply takeH (i := 6) 316 rfl (by kernel_rfl) (by kernel_rfl) (by kernel_rfl) (fun _ _ _ h => h) rfl (by first | exact M.out | exact M.out.take 3)
                case' hy =>
                  refine Or.inl ⟨by first | rfl | (go_simp; done), ?_⟩
                  intro w hS
                  clear hS
                  go_simp
                  try with_reducible rfl
                try simp only [Act.put, List.getElem_toArray, List.getElem_cons_succ, List.getElem_cons_zero, List.setIfInBounds_toArray, List.set_cons_succ, List.set_cons_zero]
                apply takeH (i := 7) 323 rfl (by kernel_rfl) (by kernel_rfl) (by kernel_rfl) (fun _ _ _ h => h) rfl (by first | exact M.out | exact M.out.take 3)
                case' hy =>
                  refine Or.inl ⟨by first | rfl | (go_simp; done), ?_⟩
                  intro w hS
                  clear hS
                  go_simp
                  try with_reducible rfl
                try simp only [Act.put, List.getElem_toArray, List.getElem_cons_succ, List.getElem_cons_zero, List.setIfInBounds_toArray, List.set_cons_succ, List.set_cons_zero]
                apply takeH (i := 8) 324 rfl (by kernel_rfl) (by kernel_rfl) (by kernel_rfl) (fun _ _ _ h => h) rfl (by first | exact M.out | exact M.out.take 3)
                case' hy =>
                  refine Or.inl ⟨by first | rfl | (go_simp; done), ?_⟩
                  intro w hS
                  clear hS
                  go_simp
                  try with_reducible rfl
                try simp only [Act.put, List.getElem_toArray, List.getElem_cons_succ, List.getElem_cons_zero, List.setIfInBounds_toArray, List.set_cons_succ, List.set_cons_zero]
                apply takeH (i := 9) 325 rfl (by kernel_rfl) (by kernel_rfl) (by kernel_rfl) (fun _ _ _ h => h) rfl (by first | exact M.out | exact M.out.take 3)
                case' hy =>
                  refine Or.inl ⟨by first | rfl | (go_simp; done), ?_⟩
                  intro w hS
                  clear hS
                  go_simp
                  try with_reducible rfl
                try simp only [Act.put, List.getElem_toArray, List.getElem_cons_succ, List.getElem_cons_zero, List.setIfInBounds_toArray, List.set_cons_succ, List.set_cons_zero]
                have m := M.out.only [0, 1, 2, 4, 3] (K := [_, _, _, _, _]) rfl (by decide)
                exact REST1 A322 c322 g29 w_ m
              rotate_right 1
              case' _ =>
                go_wp2_with (first | (go_at_call 18; go_must (refine (C.out.ff _).mono ?_); rintro e w_ ⟨A322, c322, rfl, hc322, N_⟩; have m := M.out.join N_; clear N_; simp only [List.cons_append, List.nil_append, List.append_nil] at m; have M := Lib.hid m; clear m))
                refine onward_normal (hK _ _ ⟨(by first | exact M.out | exact M.out.take 3), ?_⟩)
                clear hK K
                try simp only [Act.put, List.getElem_toArray, List.getElem_cons_succ, List.getElem_cons_zero, List.setIfInBounds_toArray, List.set_cons_succ, List.set_cons_zero]
                apply takeH (i := 6) 316 rfl (by kernel_rfl) (by kernel_rfl) (by kernel_rfl) (fun _ _ _ h => h) rfl (by first | exact M.out | exact M.out.take 3)
                case' hy =>
                  refine Or.inl ⟨by first | rfl | (go_simp; done), ?_⟩
                  intro w hS
                  clear hS
                  go_simp
                  try with_reducible rfl
                try simp only [Act.put, List.getElem_toArray, List.getElem_cons_succ, List.getElem_cons_zero, List.setIfInBounds_toArray, List.set_cons_succ, List.set_cons_zero]
                apply takeH (i := 7) 323 rfl (by kernel_rfl) (by kernel_rfl) (by kernel_rfl) (fun _ _ _ h => h) rfl (by first | exact M.out | exact M.out.take 3)
                case' hy =>
                  refine Or.inl ⟨by first | rfl | (go_simp; done), ?_⟩
                  intro w hS
                  clear hS
                  go_simp
                  try with_reducible rfl
                try simp only [Act.put, List.getElem_toArray, List.getElem_cons_succ, List.getElem_cons_zero, List.setIfInBounds_toArray, List.set_cons_succ, List.set_cons_zero]
                apply takeH (i := 8) 324 rfl (by kernel_rfl) (by kernel_rfl) (by kernel_rfl) (fun _ _ _ h => h) rfl (by first | exact M.out | exact M.out.take 3)
                case' hy =>
                  refine Or.inl ⟨by first | rfl | (go_simp; done), ?_⟩
                  intro w hS
                  clear hS
                  go_simp
                  try with_reducible rfl
                try simp only [Act.put, List.getElem_toArray, List.getElem_cons_succ, List.getElem_cons_zero, List.setIfInBounds_toArray, List.set_cons_succ, List.set_cons_zero]
                apply takeH (i := 9) 325 rfl (by kernel_rfl) (by kernel_rfl) (by kernel_rfl) (fun _ _ _ h => h) rfl (by first | exact M.out | exact M.out.take 3)
                case' hy =>
                  refine Or.inl ⟨by first | rfl | (go_simp; done), ?_⟩
                  intro w hS
                  clear hS
                  go_simp
                  try with_reducible rfl
                try simp only [Act.put, List.getElem_toArray, List.getElem_cons_succ, List.getElem_cons_zero, List.setIfInBounds_toArray, List.set_cons_succ, List.set_cons_zero]
                refine any1H 10 (by kernel_rfl) rfl (fun K hK => ?_)
                go_wp2_with (first | ((with_reducible refine gate_dst (N := 29) rfl ?_); go_must (refine M.out.ev_new rfl (by first | (go_simp; done) | (go_simp; rfl)) ?_); intro g29 w29 m; simp only [List.cons_append, List.nil_append] at m; have M := Lib.hid m; clear m; try have q5_0 := M.out.cell (j := 0) 5 rfl (by first | assumption | rfl); try have q5_2 := M.out.cell (j := 2) 5 rfl (by first | assumption | rfl); try have q5_1 := M.out.cell (j := 1) 5 rfl (by first | assumption | rfl)))
                refine onward_normal (hK _ _ ⟨(by first | exact M.out | exact M.out.take 3), ?_⟩)
                clear hK K
                try simp only [Act.put, List.getElem_toArray, List.getElem_cons_succ, List.getElem_cons_zero, List.setIfInBounds_toArray, List.set_cons_succ, List.set_cons_zero]
                exact REST1 A322 c322 g29 w29 M.out
            case hB =>
              intro A322 c322 g29 w_ m
              have M := Lib.hid m
              clear m
              refine any1H 11 (by kernel_rfl) rfl (fun K hK => ?_)
              go_wp2_with (first | ((with_reducible refine gate_store (x := .tmp 29) rfl ?_); go_must (first | (refine M.out.ev_stw 3 _ _ _ rfl rfl rfl rfl _ rfl (by first | rfl | (simp only [S1.out]; rfl) | (simp only [S1.out, S2.out]; rfl) | (simp only [S3.out]; rfl) | (simp only [S1.out, S2.out, S3.out]; rfl)) (by first | exact sz29 | (rw [S1.out]; exact sz29) | (rw [S2.out]; exact sz29) | (rw [S3.out]; exact sz29)) (by first | exact ints_one _ _ | exact Fld.one _ | exact O1.out | exact Fld.one _ | exact Visit.one _ | exact ints_one _ _ | rfl | (simp [Value.oneCell']; done)) rfl ?_) | (refine M.out.ev_stw 4 _ _ _ rfl rfl rfl rfl _ rfl (by first | rfl | (simp only [S1.out]; rfl) | (simp only [S1.out, S2.out]; rfl) | (simp only [S3.out]; rfl) | (simp only [S1.out, S2.out, S3.out]; rfl)) (by first | exact sz29 | (rw [S1.out]; exact sz29) | (rw [S2.out]; exact sz29) | (rw [S3.out]; exact sz29)) (by first | exact ints_one _ _ | exact Fld.one _ | exact O1.out | exact Fld.one _ | exact Visit.one _ | exact ints_one _ _ | rfl | (simp [Value.oneCell']; done)) rfl ?_)); intro wn m; simp only [List.set_cons_succ, List.set_cons_zero, List.setIfInBounds_toArray] at m; have M := Lib.hid m; clear m; try have q5_0 := M.out.cell (j := 0) 5 rfl (by first | assumption | rfl); try have q5_2 := M.out.cell (j := 2) 5 rfl (by first | assumption | rfl); try have q5_1 := M.out.cell (j := 1) 5 rfl (by first | assumption | rfl)))
              refine onward_normal (hK _ _ ⟨(by first | exact M.out | exact M.out.take 3), ?_⟩)
              clear hK K
              try simp only [Act.put, List.getElem_toArray, List.getElem_cons_succ, List.getElem_cons_zero, List.setIfInBounds_toArray, List.set_cons_succ, List.set_cons_zero]
              apply takeH (i := 12) 30 rfl (by kernel_rfl) (by kernel_rfl) (by kernel_rfl) (fun _ _ _ h => h) rfl (by first | exact M.out | exact M.out.take 3)
              case' hy =>
                refine Or.inl ⟨by first | rfl | (go_simp; done), ?_⟩
                intro w hS
                clear hS
                go_simp
                try with_reducible rfl
              try simp only [Act.put, List.getElem_toArray, List.getElem_cons_succ, List.getElem_cons_zero, List.setIfInBounds_toArray, List.set_cons_succ, List.set_cons_zero]
              apply takeH (i := 13) 31 rfl (by kernel_rfl) (by kernel_rfl) (by kernel_rfl) (fun _ _ _ h => h) rfl (by first | exact M.out | exact M.out.take 3)
              case' hy =>
                refine Or.inl ⟨by first | rfl | (go_simp; done), ?_⟩
                intro w hS
                clear hS
                go_simp
                try with_reducible rfl
              try simp only [Act.put, List.getElem_toArray, List.getElem_cons_succ, List.getElem_cons_zero, List.setIfInBounds_toArray, List.set_cons_succ, List.set_cons_zero]
              exact REST0 A322 c322 g29 wn M.out
          intro A322 c322 g29 w_ m
          have M := Lib.hid m
          clear m M9
          refine wpAnyH_done (by kernel_rfl) ?_ _
          go_wp2
          refine region_anyH (fun w' => Mem w w' [.blk g5 29 F.cells, .blk g6 31 (ints .i16 fs), .row (.slice (some ⟨xb, xo, none⟩) xs.length cp) 48 6 xs.length (flat Flock.vals xs), .row (.slice A322 ws.length c322) 51 3 ws.length (flat Visit.vals ws), .blk g29 29 G2.cells]) (by kernel_rfl) ?_
          have M9 := M.out.drew
          clear M
          apply merge3
          case hA =>
            intro REST0
            apply merge3
            case hA =>
              intro REST1
              have M := Lib.hid M9
              apply takeH (i := 0) 327 rfl (by kernel_rfl) (by kernel_rfl) (by kernel_rfl) (fun _ _ _ h => h) rfl (by first | exact M.out | exact M.out.take 5)
              case' hy => exact yldw _ _ rfl rfl Try.underlying29 rfl (by first | exact sz29 | (rw [S1.out]; exact sz29) | (rw [S2.out]; exact sz29) | (rw [S3.out]; exact sz29)) rfl (fun w' hS => hS.blk 0 rfl)
              try simp only [Act.put, List.getElem_toArray, List.getElem_cons_succ, List.getElem_cons_zero, List.setIfInBounds_toArray, List.set_cons_succ, List.set_cons_zero]
              apply takeH (i := 1) 328 rfl (by kernel_rfl) (by kernel_rfl) (by kernel_rfl) (fun _ _ _ h => h) rfl (by first | exact M.out | exact M.out.take 5)
              case' hy => exact yldw _ _ rfl rfl Try.underlying31 rfl (by first | exact sz31 | (rw [S1.out]; exact sz31) | (rw [S2.out]; exact sz31) | (rw [S3.out]; exact sz31)) rfl (fun w' hS => hS.blk 1 rfl)
              try simp only [Act.put, List.getElem_toArray, List.getElem_cons_succ, List.getElem_cons_zero, List.setIfInBounds_toArray, List.set_cons_succ, List.set_cons_zero]
              apply takeH (i := 2) 329 rfl (by kernel_rfl) (by kernel_rfl) (by kernel_rfl) (fun _ _ _ h => h) rfl (by first | exact M.out | exact M.out.take 5)
              case' hy =>
                refine Or.inl ⟨by first | rfl | (go_simp; done), ?_⟩
                intro w hS
                clear hS
                go_simp
                try with_reducible rfl
              try simp only [Act.put, List.getElem_toArray, List.getElem_cons_succ, List.getElem_cons_zero, List.setIfInBounds_toArray, List.set_cons_succ, List.set_cons_zero]
              apply takeH (i := 3) 330 rfl (by kernel_rfl) (by kernel_rfl) (by kernel_rfl) (fun _ _ _ h => h) rfl (by first | exact M.out | exact M.out.take 5)
              case' hy =>
                refine Or.inl ⟨by first | rfl | (go_simp; done), ?_⟩
                intro w hS
                clear hS
                go_simp
                try with_reducible rfl
              try simp only [Act.put, List.getElem_toArray, List.getElem_cons_succ, List.getElem_cons_zero, List.setIfInBounds_toArray, List.set_cons_succ, List.set_cons_zero]
              apply takeH (i := 4) 331 rfl (by kernel_rfl) (by kernel_rfl) (by kernel_rfl) (fun _ _ _ h => h) rfl (by first | exact M.out | exact M.out.take 5)
              case' hy => exact yieldsIf_load_mid (by first | rfl | (go_simp; done)) _ _ rfl _ _ rfl _ _ (fun w' hS => (show World.rangeAt w' xb xo x0.vals from by have h := range_at Flock.vl (sl_rangeFlock (hS.slof 2 rfl) hpos) HX0.out; rw [Nat.zero_mul, Nat.add_zero] at h; exact h)) Try.underlying48 rfl sz48
              try simp only [Act.put, List.getElem_toArray, List.getElem_cons_succ, List.getElem_cons_zero, List.setIfInBounds_toArray, List.set_cons_succ, List.set_cons_zero]
              refine any2H 5 10 (by kernel_rfl) rfl rfl (fun K hK => ?_) (fun K hK => ?_)
              rotate_right 1
              case' _ =>
                go_wp2_with (first | ((with_reducible refine gate_dst (N := 32) rfl ?_); go_must (refine M.out.ev_new rfl (by first | (go_simp; done) | (go_simp; rfl)) ?_); intro g32 w32 m; simp only [List.cons_append, List.nil_append] at m; have M := Lib.hid m; clear m; try have q5_0 := M.out.cell (j := 0) 5 rfl (by first | assumption | rfl); try have q5_2 := M.out.cell (j := 2) 5 rfl (by first | assumption | rfl); try have q5_1 := M.out.cell (j := 1) 5 rfl (by first | assumption | rfl)))
                refine onward_normal (hK _ _ ⟨(by first | exact M.out | exact M.out.take 5), ?_⟩)
                clear hK K
                try simp only [Act.put, List.getElem_toArray, List.getElem_cons_succ, List.getElem_cons_zero, List.setIfInBounds_toArray, List.set_cons_succ, List.set_cons_zero]
                refine any1H 5 (by kernel_rfl) rfl (fun K hK => ?_)
                go_wp2_with (first | (go_at_call 19; go_must (refine (C.out.sf _).mono ?_); rintro e w_ ⟨A332, c332, rfl, hc332, N_⟩; have m := M.out.join N_; clear N_; simp only [List.cons_append, List.nil_append, List.append_nil] at m; have M := Lib.hid m; clear m))
                refine onward_normal (hK _ _ ⟨(by first | exact M.out | exact M.out.take 5), ?_⟩)
                clear hK K
                try simp only [Act.put, List.getElem_toArray, List.getElem_cons_succ, List.getElem_cons_zero, List.setIfInBounds_toArray, List.set_cons_succ, List.set_cons_zero]
                apply takeH (i := 6) 326 rfl (by kernel_rfl) (by kernel_rfl) (by kernel_rfl) (fun _ _ _ h => h) rfl (by first | exact M.out | exact M.out.take 5)
                case' hy =>
                  refine Or.inl ⟨by first | rfl | (go_simp; done), ?_⟩
                  intro w hS
                  clear hS
                  go_simp
                  try with_reducible rfl
                try simp only [Act.put, List.getElem_toArray, List.getElem_cons_succ, List.getElem_cons_zero, List.setIfInBounds_toArray, List.set_cons_succ, List.set_cons_zero]
                apply takeH (i := 7) 333 rfl (by kernel_rfl) (by kernel_rfl) (by kernel_rfl) (fun _ _ _ h => h) rfl (by first | exact M.out | exact M.out.take 5)
                case' hy =>
                  refine Or.inl ⟨by first | rfl | (go_simp; done), ?_⟩
                  intro w hS
                  clear hS
                  go_simp
                  try with_reducible rfl
                try simp only [Act.put, List.getElem_toArray, List.getElem_cons_succ, List.getElem_cons_zero, List.setIfInBounds_toArray, List.set_cons_succ, List.set_cons_zero]
                apply takeH (i := 8) 334 rfl (by kernel_rfl) (by kernel_rfl) (by kernel_rfl) (fun _ _ _ h => h) rfl (by first | exact M.out | exact M.out.take 5)
                case' hy =>
                  refine Or.inl ⟨by first | rfl | (go_simp; done), ?_⟩
                  intro w hS
                  clear hS
                  go_simp
                  try with_reducible rfl
                try simp only [Act.put, List.getElem_toArray, List.getElem_cons_succ, List.getElem_cons_zero, List.setIfInBounds_toArray, List.set_cons_succ, List.set_cons_zero]
                apply takeH (i := 9) 335 rfl (by kernel_rfl) (by kernel_rfl) (by kernel_rfl) (fun _ _ _ h => h) rfl (by first | exact M.out | exact M.out.take 5)
                case' hy =>
                  refine Or.inl ⟨by first | rfl | (go_simp; done), ?_⟩
                  intro w hS
                  clear hS
                  go_simp
                  try with_reducible rfl
                try simp only [Act.put, List.getElem_toArray, List.getElem_cons_succ, List.getElem_cons_zero, List.setIfInBounds_toArray, List.set_cons_succ, List.set_cons_zero]
                have m := M.out.only [0, 1, 2, 3, 4, 6, 5] (K := [_, _, _, _, _, _, _]) rfl (by decide)
                exact REST1 A332 c332 g32 w_ m
              rotate_right 1
              case' _ =>
                go_wp2_with (first | (go_at_call 19; go_must (refine (C.out.sf _).mono ?_); rintro e w_ ⟨A332, c332, rfl, hc332, N_⟩; have m := M.out.join N_; clear N_; simp only [List.cons_append, List.nil_append, List.append_nil] at m; have M := Lib.hid m; clear m))
                refine onward_normal (hK _ _ ⟨(by first | exact M.out | exact M.out.take 5), ?_⟩)
                clear hK K
                try simp only [Act.put, List.getElem_toArray, List.getElem_cons_succ, List.getElem_cons_zero, List.setIfInBounds_toArray, List.set_cons_succ, List.set_cons_zero]
                apply takeH (i := 6) 326 rfl (by kernel_rfl) (by kernel_rfl) (by kernel_rfl) (fun _ _ _ h => h) rfl (by first | exact M.out | exact M.out.take 5)
                case' hy =>
                  refine Or.inl ⟨by first | rfl | (go_simp; done), ?_⟩
                  intro w hS
                  clear hS
                  go_simp
                  try with_reducible rfl
                try simp only [Act.put, List.getElem_toArray, List.getElem_cons_succ, List.getElem_cons_zero, List.setIfInBounds_toArray, List.set_cons_succ, List.set_cons_zero]
                apply takeH (i := 7) 333 rfl (by kernel_rfl) (by kernel_rfl) (by kernel_rfl) (fun _ _ _ h => h) rfl (by first | exact M.out | exact M.out.take 5)
                case' hy =>
                  refine Or.inl ⟨by first | rfl | (go_simp; done), ?_⟩
                  intro w hS
                  clear hS
                  go_simp
                  try with_reducible rfl
                try simp only [Act.put, List.getElem_toArray, List.getElem_cons_succ, List.getElem_cons_zero, List.setIfInBounds_toArray, List.set_cons_succ, List.set_cons_zero]
                apply takeH (i := 8) 334 rfl (by kernel_rfl) (by kernel_rfl) (by kernel_rfl) (fun _ _ _ h => h) rfl (by first | exact M.out | exact M.out.take 5)
                case' hy =>
                  refine Or.inl ⟨by first | rfl | (go_simp; done), ?_⟩
                  intro w hS
                  clear hS
                  go_simp
                  try with_reducible rfl
                try simp only [Act.put, List.getElem_toArray, List.getElem_cons_succ, List.getElem_cons_zero, List.setIfInBounds_toArray, List.set_cons_succ, List.set_cons_zero]
                apply takeH (i := 9) 335 rfl (by kernel_rfl) (by kernel_rfl) (by kernel_rfl) (fun _ _ _ h => h) rfl (by first | exact M.out | exact M.out.take 5)
                case' hy =>
                  refine Or.inl ⟨by first | rfl | (go_simp; done), ?_⟩
                  intro w hS
                  clear hS
                  go_simp
                  try with_reducible rfl
                try simp only [Act.put, List.getElem_toArray, List.getElem_cons_succ, List.getElem_cons_zero, List.setIfInBounds_toArray, List.set_cons_succ, List.set_cons_zero]
                refine any1H 10 (by kernel_rfl) rfl (fun K hK => ?_)
                go_wp2_with (first | ((with_reducible refine gate_dst (N := 32) rfl ?_); go_must (refine M.out.ev_new rfl (by first | (go_simp; done) | (go_simp; rfl)) ?_); intro g32 w32 m; simp only [List.cons_append, List.nil_append] at m; have M := Lib.hid m; clear m; try have q5_0 := M.out.cell (j := 0) 5 rfl (by first | assumption | rfl); try have q5_2 := M.out.cell (j := 2) 5 rfl (by first | assumption | rfl); try have q5_1 := M.out.cell (j := 1) 5 rfl (by first | assumption | rfl)))
                refine onward_normal (hK _ _ ⟨(by first | exact M.out | exact M.out.take 5), ?_⟩)
                clear hK K
                try simp only [Act.put, List.getElem_toArray, List.getElem_cons_succ, List.getElem_cons_zero, List.setIfInBounds_toArray, List.set_cons_succ, List.set_cons_zero]
                exact REST1 A332 c332 g32 w32 M.out
            case hB =>
              intro A332 c332 g32 w_ m
              have M := Lib.hid m
              clear m
              refine any1H 11 (by kernel_rfl) rfl (fun K hK => ?_)
              go_wp2_with (first | ((with_reducible refine gate_store (x := .tmp 32) rfl ?_); go_must (first | (refine M.out.ev_stw 5 _ _ _ rfl rfl rfl rfl _ rfl (by first | rfl | (simp only [S1.out]; rfl) | (simp only [S1.out, S2.out]; rfl) | (simp only [S3.out]; rfl) | (simp only [S1.out, S2.out, S3.out]; rfl)) (by first | exact sz29 | (rw [S1.out]; exact sz29) | (rw [S2.out]; exact sz29) | (rw [S3.out]; exact sz29)) (by first | exact ints_one _ _ | exact Fld.one _ | exact O1.out | exact Fld.one _ | exact Visit.one _ | exact ints_one _ _ | rfl | (simp [Value.oneCell']; done)) rfl ?_) | (refine M.out.ev_stw 6 _ _ _ rfl rfl rfl rfl _ rfl (by first | rfl | (simp only [S1.out]; rfl) | (simp only [S1.out, S2.out]; rfl) | (simp only [S3.out]; rfl) | (simp only [S1.out, S2.out, S3.out]; rfl)) (by first | exact sz29 | (rw [S1.out]; exact sz29) | (rw [S2.out]; exact sz29) | (rw [S3.out]; exact sz29)) (by first | exact ints_one _ _ | exact Fld.one _ | exact O1.out | exact Fld.one _ | exact Visit.one _ | exact ints_one _ _ | rfl | (simp [Value.oneCell']; done)) rfl ?_)); intro wn m; simp only [List.set_cons_succ, List.set_cons_zero, List.setIfInBounds_toArray] at m; have M := Lib.hid m; clear m; try have q5_0 := M.out.cell (j := 0) 5 rfl (by first | assumption | rfl); try have q5_2 := M.out.cell (j := 2) 5 rfl (by first | assumption | rfl); try have q5_1 := M.out.cell (j := 1) 5 rfl (by first | assumption | rfl)))
              refine onward_normal (hK _ _ ⟨(by first | exact M.out | exact M.out.take 5), ?_⟩)
              clear hK K
              try simp only [Act.put, List.getElem_toArray, List.getElem_cons_succ, List.getElem_cons_zero, List.setIfInBounds_toArray, List.set_cons_succ, List.set_cons_zero]
              apply takeH (i := 12) 33 rfl (by kernel_rfl) (by kernel_rfl) (by kernel_rfl) (fun _ _ _ h => h) rfl (by first | exact M.out | exact M.out.take 5)
              case' hy =>
                refine Or.inl ⟨by first | rfl | (go_simp; done), ?_⟩
                intro w hS
                clear hS
                go_simp
                try with_reducible rfl
              try simp only [Act.put, List.getElem_toArray, List.getElem_cons_succ, List.getElem_cons_zero, List.setIfInBounds_toArray, List.set_cons_succ, List.set_cons_zero]
              apply takeH (i := 13) 34 rfl (by kernel_rfl) (by kernel_rfl) (by kernel_rfl) (fun _ _ _ h => h) rfl (by first | exact M.out | exact M.out.take 5)
              case' hy =>
                refine Or.inl ⟨by first | rfl | (go_simp; done), ?_⟩
                intro w hS
                clear hS
                go_simp
                try with_reducible rfl
              try simp only [Act.put, List.getElem_toArray, List.getElem_cons_succ, List.getElem_cons_zero, List.setIfInBounds_toArray, List.set_cons_succ, List.set_cons_zero]
              exact REST0 A332 c332 g32 wn M.out
          intro A332 c332 g32 w_ m
          have M := Lib.hid m
          clear m M9
          refine wpAnyH_done (by kernel_rfl) ?_ _
          go_wp2
          refine region_anyH (fun w' => Mem w w' [.blk g5 29 F.cells, .blk g6 31 (ints .i16 fs), .row (.slice (some ⟨xb, xo, none⟩) xs.length cp) 48 6 xs.length (flat Flock.vals xs), .row (.slice A322 ws.length c322) 51 3 ws.length (flat Visit.vals ws), .blk g29 29 G2.cells, .row (.slice A332 ws.length c332) 51 3 ws.length (flat Visit.vals ws), .blk g32 29 G2.cells]) (by kernel_rfl) ?_
          have M9 := M.out.drew
          clear M
          apply merge2
          case hA =>
            intro REST0
            apply merge2
            case hA =>
              intro REST1
              apply merge1
              case hA =>
                intro REST2
                apply merge1
                case hA =>
                  intro REST3
                  apply merge2
                  case hA =>
                    intro REST4
                    have M := Lib.hid M9
                    apply takeH (i := 0) 337 rfl (by kernel_rfl) (by kernel_rfl) (by kernel_rfl) (fun _ _ _ h => h) rfl (by first | exact M.out | exact M.out.take 7)
                    case' hy => exact yldw _ _ rfl rfl Try.underlying29 rfl (by first | exact sz29 | (rw [S1.out]; exact sz29) | (rw [S2.out]; exact sz29) | (rw [S3.out]; exact sz29)) rfl (fun w' hS => hS.blk 0 rfl)
                    try simp only [Act.put, List.getElem_toArray, List.getElem_cons_succ, List.getElem_cons_zero, List.setIfInBounds_toArray, List.set_cons_succ, List.set_cons_zero]
                    apply takeH (i := 1) 338 rfl (by kernel_rfl) (by kernel_rfl) (by kernel_rfl) (fun _ _ _ h => h) rfl (by first | exact M.out | exact M.out.take 7)
                    case' hy => exact yldw _ _ rfl rfl Try.underlying31 rfl (by first | exact sz31 | (rw [S1.out]; exact sz31) | (rw [S2.out]; exact sz31) | (rw [S3.out]; exact sz31)) rfl (fun w' hS => hS.blk 1 rfl)
                    try simp only [Act.put, List.getElem_toArray, List.getElem_cons_succ, List.getElem_cons_zero, List.setIfInBounds_toArray, List.set_cons_succ, List.set_cons_zero]
                    apply takeH (i := 2) 339 rfl (by kernel_rfl) (by kernel_rfl) (by kernel_rfl) (fun _ _ _ h => h) rfl (by first | exact M.out | exact M.out.take 7)
                    case' hy =>
                      refine Or.inl ⟨by first | rfl | (go_simp; done), ?_⟩
                      intro w hS
                      clear hS
                      go_simp
                      try with_reducible rfl
                    try simp only [Act.put, List.getElem_toArray, List.getElem_cons_succ, List.getElem_cons_zero, List.setIfInBounds_toArray, List.set_cons_succ, List.set_cons_zero]
                    apply takeH (i := 3) 340 rfl (by kernel_rfl) (by kernel_rfl) (by kernel_rfl) (fun _ _ _ h => h) rfl (by first | exact M.out | exact M.out.take 7)
                    case' hy =>
                      refine Or.inl ⟨by first | rfl | (go_simp; done), ?_⟩
                      intro w hS
                      clear hS
                      go_simp
                      try with_reducible rfl
                    try simp only [Act.put, List.getElem_toArray, List.getElem_cons_succ, List.getElem_cons_zero, List.setIfInBounds_toArray, List.set_cons_succ, List.set_cons_zero]
                    apply takeH (i := 4) 341 rfl (by kernel_rfl) (by kernel_rfl) (by kernel_rfl) (fun _ _ _ h => h) rfl (by first | exact M.out | exact M.out.take 7)
                    case' hy => exact yieldsIf_load_mid (by first | rfl | (go_simp; done)) _ _ rfl _ _ rfl _ _ (fun w' hS => (show World.rangeAt w' xb xo x0.vals from by have h := range_at Flock.vl (sl_rangeFlock (hS.slof 2 rfl) hpos) HX0.out; rw [Nat.zero_mul, Nat.add_zero] at h; exact h)) Try.underlying48 rfl sz48
                    try simp only [Act.put, List.getElem_toArray, List.getElem_cons_succ, List.getElem_cons_zero, List.setIfInBounds_toArray, List.set_cons_succ, List.set_cons_zero]
                    refine any3H 5 10 11 (by kernel_rfl) rfl rfl rfl (fun K hK => ?_) (fun K hK => ?_) (fun K hK => ?_)
                    rotate_right 1
                    case' _ =>
                      go_wp2_with (first | ((with_reducible refine gate_dst (N := 36) rfl ?_); go_must (refine M.out.ev_new rfl (by first | (go_simp; done) | (go_simp; rfl)) ?_); intro g36 w36 m; simp only [List.cons_append, List.nil_append] at m; have M := Lib.hid m; clear m; try have q5_0 := M.out.cell (j := 0) 5 rfl (by first | assumption | rfl); try have q5_2 := M.out.cell (j := 2) 5 rfl (by first | assumption | rfl); try have q5_1 := M.out.cell (j := 1) 5 rfl (by first | assumption | rfl)))
                      refine onward_normal (hK _ _ ⟨(by first | exact M.out | exact M.out.take 7), ?_⟩)
                      clear hK K
                      try simp only [Act.put, List.getElem_toArray, List.getElem_cons_succ, List.getElem_cons_zero, List.setIfInBounds_toArray, List.set_cons_succ, List.set_cons_zero]
                      refine any2H 5 10 (by kernel_rfl) rfl rfl (fun K hK => ?_) (fun K hK => ?_)
                      rotate_right 1
                      case' _ =>
                        go_wp2_with (first | ((with_reducible refine gate_dst (N := 35) rfl ?_); go_must (refine M.out.ev_new rfl (by first | (go_simp; done) | (go_simp; rfl)) ?_); intro g35 w35 m; simp only [List.cons_append, List.nil_append] at m; have M := Lib.hid m; clear m; try have q5_0 := M.out.cell (j := 0) 5 rfl (by first | assumption | rfl); try have q5_2 := M.out.cell (j := 2) 5 rfl (by first | assumption | rfl); try have q5_1 := M.out.cell (j := 1) 5 rfl (by first | assumption | rfl)))
                        refine onward_normal (hK _ _ ⟨(by first | exact M.out | exact M.out.take 7), ?_⟩)
                        clear hK K
                        try simp only [Act.put, List.getElem_toArray, List.getElem_cons_succ, List.getElem_cons_zero, List.setIfInBounds_toArray, List.set_cons_succ, List.set_cons_zero]
                        have m := M.out.only [0, 1, 2, 3, 4, 5, 6, 8, 7] (K := [_, _, _, _, _, _, _, _, _]) rfl (by decide)
                        exact REST4 g35 g36 w35 m
                      rotate_right 1
                      case' _ =>
                        go_wp2_with (first | (go_at_call 20; go_must (refine (C.out.eo _).mono ?_); rintro e w_ ⟨rfl, N_⟩; have m := M.out.join N_; clear N_; simp only [List.cons_append, List.nil_append, List.append_nil] at m; have M := Lib.hid m; clear m))
                        refine onward_normal (hK _ _ ⟨(by first | exact M.out | exact M.out.take 7), ?_⟩)
                        clear hK K
                        try simp only [Act.put, List.getElem_toArray, List.getElem_cons_succ, List.getElem_cons_zero, List.setIfInBounds_toArray, List.set_cons_succ, List.set_cons_zero]
                        apply takeH (i := 6) 336 rfl (by kernel_rfl) (by kernel_rfl) (by kernel_rfl) (fun _ _ _ h => h) rfl (by first | exact M.out | exact M.out.take 7)
                        case' hy =>
                          refine Or.inl ⟨by first | rfl | (go_simp; done), ?_⟩
                          intro w hS
                          clear hS
                          go_simp
                          try with_reducible rfl
                        try simp only [Act.put, List.getElem_toArray, List.getElem_cons_succ, List.getElem_cons_zero, List.setIfInBounds_toArray, List.set_cons_succ, List.set_cons_zero]
                        apply takeH (i := 7) 343 rfl (by kernel_rfl) (by kernel_rfl) (by kernel_rfl) (fun _ _ _ h => h) rfl (by first | exact M.out | exact M.out.take 7)
                        case' hy =>
                          refine Or.inl ⟨by first | rfl | (go_simp; done), ?_⟩
                          intro w hS
                          clear hS
                          go_simp
                          try with_reducible rfl
                        try simp only [Act.put, List.getElem_toArray, List.getElem_cons_succ, List.getElem_cons_zero, List.setIfInBounds_toArray, List.set_cons_succ, List.set_cons_zero]
                        apply takeH (i := 8) 344 rfl (by kernel_rfl) (by kernel_rfl) (by kernel_rfl) (fun _ _ _ h => h) rfl (by first | exact M.out | exact M.out.take 7)
                        case' hy =>
                          refine Or.inl ⟨by first | rfl | (go_simp; done), ?_⟩
                          intro w hS
                          clear hS
                          go_simp
                          try with_reducible rfl
                        try simp only [Act.put, List.getElem_toArray, List.getElem_cons_succ, List.getElem_cons_zero, List.setIfInBounds_toArray, List.set_cons_succ, List.set_cons_zero]
                        apply takeH (i := 9) 345 rfl (by kernel_rfl) (by kernel_rfl) (by kernel_rfl) (fun _ _ _ h => h) rfl (by first | exact M.out | exact M.out.take 7)
                        case' hy =>
                          refine Or.inl ⟨by first | rfl | (go_simp; done), ?_⟩
                          intro w hS
                          clear hS
                          go_simp
                          try with_reducible rfl
                        try simp only [Act.put, List.getElem_toArray, List.getElem_cons_succ, List.getElem_cons_zero, List.setIfInBounds_toArray, List.set_cons_succ, List.set_cons_zero]
                        exact REST2 g36 w_ M.out
                    rotate_right 1
                    case' _ =>
                      go_wp2_with (first | ((with_reducible refine gate_dst (N := 35) rfl ?_); go_must (refine M.out.ev_new rfl (by first | (go_simp; done) | (go_simp; rfl)) ?_); intro g35 w35 m; simp only [List.cons_append, List.nil_append] at m; have M := Lib.hid m; clear m; try have q5_0 := M.out.cell (j := 0) 5 rfl (by first | assumption | rfl); try have q5_2 := M.out.cell (j := 2) 5 rfl (by first | assumption | rfl); try have q5_1 := M.out.cell (j := 1) 5 rfl (by first | assumption | rfl)))
                      refine onward_normal (hK _ _ ⟨(by first | exact M.out | exact M.out.take 7), ?_⟩)
                      clear hK K
                      try simp only [Act.put, List.getElem_toArray, List.getElem_cons_succ, List.getElem_cons_zero, List.setIfInBounds_toArray, List.set_cons_succ, List.set_cons_zero]
                      refine any2H 5 11 (by kernel_rfl) rfl rfl (fun K hK => ?_) (fun K hK => ?_)
                      rotate_right 1
                      case' _ =>
                        go_wp2_with (first | ((with_reducible refine gate_dst (N := 36) rfl ?_); go_must (refine M.out.ev_new rfl (by first | (go_simp; done) | (go_simp; rfl)) ?_); intro g36 w36 m; simp only [List.cons_append, List.nil_append] at m; have M := Lib.hid m; clear m; try have q5_0 := M.out.cell (j := 0) 5 rfl (by first | assumption | rfl); try have q5_2 := M.out.cell (j := 2) 5 rfl (by first | assumption | rfl); try have q5_1 := M.out.cell (j := 1) 5 rfl (by first | assumption | rfl)))
                        refine onward_normal (hK _ _ ⟨(by first | exact M.out | exact M.out.take 7), ?_⟩)
                        clear hK K
                        try simp only [Act.put, List.getElem_toArray, List.getElem_cons_succ, List.getElem_cons_zero, List.setIfInBounds_toArray, List.set_cons_succ, List.set_cons_zero]
                        exact REST4 g35 g36 w36 M.out
                      rotate_right 1
                      case' _ =>
                        go_wp2_with (first | (go_at_call 20; go_must (refine (C.out.eo _).mono ?_); rintro e w_ ⟨rfl, N_⟩; have m := M.out.join N_; clear N_; simp only [List.cons_append, List.nil_append, List.append_nil] at m; have M := Lib.hid m; clear m))
                        refine onward_normal (hK _ _ ⟨(by first | exact M.out | exact M.out.take 7), ?_⟩)
                        clear hK K
                        try simp only [Act.put, List.getElem_toArray, List.getElem_cons_succ, List.getElem_cons_zero, List.setIfInBounds_toArray, List.set_cons_succ, List.set_cons_zero]
                        apply takeH (i := 6) 336 rfl (by kernel_rfl) (by kernel_rfl) (by kernel_rfl) (fun _ _ _ h => h) rfl (by first | exact M.out | exact M.out.take 7)
                        case' hy =>
                          refine Or.inl ⟨by first | rfl | (go_simp; done), ?_⟩
                          intro w hS
                          clear hS
                          go_simp
                          try with_reducible rfl
                        try simp only [Act.put, List.getElem_toArray, List.getElem_cons_succ, List.getElem_cons_zero, List.setIfInBounds_toArray, List.set_cons_succ, List.set_cons_zero]
                        apply takeH (i := 7) 343 rfl (by kernel_rfl) (by kernel_rfl) (by kernel_rfl) (fun _ _ _ h => h) rfl (by first | exact M.out | exact M.out.take 7)
                        case' hy =>
                          refine Or.inl ⟨by first | rfl | (go_simp; done), ?_⟩
                          intro w hS
                          clear hS
                          go_simp
                          try with_reducible rfl
                        try simp only [Act.put, List.getElem_toArray, List.getElem_cons_succ, List.getElem_cons_zero, List.setIfInBounds_toArray, List.set_cons_succ, List.set_cons_zero]
                        apply takeH (i := 8) 344 rfl (by kernel_rfl) (by kernel_rfl) (by kernel_rfl) (fun _ _ _ h => h) rfl (by first | exact M.out | exact M.out.take 7)
                        case' hy =>
                          refine Or.inl ⟨by first | rfl | (go_simp; done), ?_⟩
                          intro w hS
                          clear hS
                          go_simp
                          try with_reducible rfl
                        try simp only [Act.put, List.getElem_toArray, List.getElem_cons_succ, List.getElem_cons_zero, List.setIfInBounds_toArray, List.set_cons_succ, List.set_cons_zero]
                        apply takeH (i := 9) 345 rfl (by kernel_rfl) (by kernel_rfl) (by kernel_rfl) (fun _ _ _ h => h) rfl (by first | exact M.out | exact M.out.take 7)
                        case' hy =>
                          refine Or.inl ⟨by first | rfl | (go_simp; done), ?_⟩
                          intro w hS
                          clear hS
                          go_simp
                          try with_reducible rfl
                        try simp only [Act.put, List.getElem_toArray, List.getElem_cons_succ, List.getElem_cons_zero, List.setIfInBounds_toArray, List.set_cons_succ, List.set_cons_zero]
                        exact REST3 g35 w_ M.out
                    rotate_right 1
                    case' _ =>
                      go_wp2_with (first | (go_at_call 20; go_must (refine (C.out.eo _).mono ?_); rintro e w_ ⟨rfl, N_⟩; have m := M.out.join N_; clear N_; simp only [List.cons_append, List.nil_append, List.append_nil] at m; have M := Lib.hid m; clear m))
                      refine onward_normal (hK _ _ ⟨(by first | exact M.out | exact M.out.take 7), ?_⟩)
                      clear hK K
                      try simp only [Act.put, List.getElem_toArray, List.getElem_cons_succ, List.getElem_cons_zero, List.setIfInBounds_toArray, List.set_cons_succ, List.set_cons_zero]
                      apply takeH (i := 6) 336 rfl (by kernel_rfl) (by kernel_rfl) (by kernel_rfl) (fun _ _ _ h => h) rfl (by first | exact M.out | exact M.out.take 7)
                      case' hy =>
                        refine Or.inl ⟨by first | rfl | (go_simp; done), ?_⟩
                        intro w hS
                        clear hS
                        go_simp
                        try with_reducible rfl
                      try simp only [Act.put, List.getElem_toArray, List.getElem_cons_succ, List.getElem_cons_zero, List.setIfInBounds_toArray, List.set_cons_succ, List.set_cons_zero]
                      apply takeH (i := 7) 343 rfl (by kernel_rfl) (by kernel_rfl) (by kernel_rfl) (fun _ _ _ h => h) rfl (by first | exact M.out | exact M.out.take 7)
                      case' hy =>
                        refine Or.inl ⟨by first | rfl | (go_simp; done), ?_⟩
                        intro w hS
                        clear hS
                        go_simp
                        try with_reducible rfl
                      try simp only [Act.put, List.getElem_toArray, List.getElem_cons_succ, List.getElem_cons_zero, List.setIfInBounds_toArray, List.set_cons_succ, List.set_cons_zero]
                      apply takeH (i := 8) 344 rfl (by kernel_rfl) (by kernel_rfl) (by kernel_rfl) (fun _ _ _ h => h) rfl (by first | exact M.out | exact M.out.take 7)
                      case' hy =>
                        refine Or.inl ⟨by first | rfl | (go_simp; done), ?_⟩
                        intro w hS
                        clear hS
                        go_simp
                        try with_reducible rfl
                      try simp only [Act.put, List.getElem_toArray, List.getElem_cons_succ, List.getElem_cons_zero, List.setIfInBounds_toArray, List.set_cons_succ, List.set_cons_zero]
                      apply takeH (i := 9) 345 rfl (by kernel_rfl) (by kernel_rfl) (by kernel_rfl) (fun _ _ _ h => h) rfl (by first | exact M.out | exact M.out.take 7)
                      case' hy =>
                        refine Or.inl ⟨by first | rfl | (go_simp; done), ?_⟩
                        intro w hS
                        clear hS
                        go_simp
                        try with_reducible rfl
                      try simp only [Act.put, List.getElem_toArray, List.getElem_cons_succ, List.getElem_cons_zero, List.setIfInBounds_toArray, List.set_cons_succ, List.set_cons_zero]
                      refine any2H 10 11 (by kernel_rfl) rfl rfl (fun K hK => ?_) (fun K hK => ?_)
                      rotate_right 1
                      case' _ =>
                        go_wp2_with (first | ((with_reducible refine gate_dst (N := 36) rfl ?_); go_must (refine M.out.ev_new rfl (by first | (go_simp; done) | (go_simp; rfl)) ?_); intro g36 w36 m; simp only [List.cons_append, List.nil_append] at m; have M := Lib.hid m; clear m; try have q5_0 := M.out.cell (j := 0) 5 rfl (by first | assumption | rfl); try have q5_2 := M.out.cell (j := 2) 5 rfl (by first | assumption | rfl); try have q5_1 := M.out.cell (j := 1) 5 rfl (by first | assumption | rfl)))
                        refine onward_normal (hK _ _ ⟨(by first | exact M.out | exact M.out.take 7), ?_⟩)
                        clear hK K
                        try simp only [Act.put, List.getElem_toArray, List.getElem_cons_succ, List.getElem_cons_zero, List.setIfInBounds_toArray, List.set_cons_succ, List.set_cons_zero]
                        exact REST2 g36 w36 M.out
                      rotate_right 1
                      case' _ =>
                        go_wp2_with (first | ((with_reducible refine gate_dst (N := 35) rfl ?_); go_must (refine M.out.ev_new rfl (by first | (go_simp; done) | (go_simp; rfl)) ?_); intro g35 w35 m; simp only [List.cons_append, List.nil_append] at m; have M := Lib.hid m; clear m; try have q5_0 := M.out.cell (j := 0) 5 rfl (by first | assumption | rfl); try have q5_2 := M.out.cell (j := 2) 5 rfl (by first | assumption | rfl); try have q5_1 := M.out.cell (j := 1) 5 rfl (by first | assumption | rfl)))
                        refine onward_normal (hK _ _ ⟨(by first | exact M.out | exact M.out.take 7), ?_⟩)
                        clear hK K
                        try simp only [Act.put, List.getElem_toArray, List.getElem_cons_succ, List.getElem_cons_zero, List.setIfInBounds_toArray, List.set_cons_succ, List.set_cons_zero]
                        exact REST3 g35 w35 M.out
                  case hB =>
                    intro g35 g36 w_ m
                    have M := Lib.hid m
                    clear m
                    refine any1H 5 (by kernel_rfl) rfl (fun K hK => ?_)
                    go_wp2_with (first | (go_at_call 20; go_must (refine (C.out.eo _).mono ?_); rintro e w_ ⟨rfl, N_⟩; have m := M.out.join N_; clear N_; simp only [List.cons_append, List.nil_append, List.append_nil] at m; have M := Lib.hid m; clear m))
                    refine onward_normal (hK _ _ ⟨(by first | exact M.out | exact M.out.take 7), ?_⟩)
                    clear hK K
                    try simp only [Act.put, List.getElem_toArray, List.getElem_cons_succ, List.getElem_cons_zero, List.setIfInBounds_toArray, List.set_cons_succ, List.set_cons_zero]
                    apply takeH (i := 6) 336 rfl (by kernel_rfl) (by kernel_rfl) (by kernel_rfl) (fun _ _ _ h => h) rfl (by first | exact M.out | exact M.out.take 7)
                    case' hy =>
                      refine Or.inl ⟨by first | rfl | (go_simp; done), ?_⟩
                      intro w hS
                      clear hS
                      go_simp
                      try with_reducible rfl
                    try simp only [Act.put, List.getElem_toArray, List.getElem_cons_succ, List.getElem_cons_zero, List.setIfInBounds_toArray, List.set_cons_succ, List.set_cons_zero]
                    apply takeH (i := 7) 343 rfl (by kernel_rfl) (by kernel_rfl) (by kernel_rfl) (fun _ _ _ h => h) rfl (by first | exact M.out | exact M.out.take 7)
                    case' hy =>
                      refine Or.inl ⟨by first | rfl | (go_simp; done), ?_⟩
                      intro w hS
                      clear hS
                      go_simp
                      try with_reducible rfl
                    try simp only [Act.put, List.getElem_toArray, List.getElem_cons_succ, List.getElem_cons_zero, List.setIfInBounds_toArray, List.set_cons_succ, List.set_cons_zero]
                    apply takeH (i := 8) 344 rfl (by kernel_rfl) (by kernel_rfl) (by kernel_rfl) (fun _ _ _ h => h) rfl (by first | exact M.out | exact M.out.take 7)
                    case' hy =>
                      refine Or.inl ⟨by first | rfl | (go_simp; done), ?_⟩
                      intro w hS
                      clear hS
                      go_simp
                      try with_reducible rfl
                    try simp only [Act.put, List.getElem_toArray, List.getElem_cons_succ, List.getElem_cons_zero, List.setIfInBounds_toArray, List.set_cons_succ, List.set_cons_zero]
                    apply takeH (i := 9) 345 rfl (by kernel_rfl) (by kernel_rfl) (by kernel_rfl) (fun _ _ _ h => h) rfl (by first | exact M.out | exact M.out.take 7)
                    case' hy =>
                      refine Or.inl ⟨by first | rfl | (go_simp; done), ?_⟩
                      intro w hS
                      clear hS
                      go_simp
                      try with_reducible rfl
                    try simp only [Act.put, List.getElem_toArray, List.getElem_cons_succ, List.getElem_cons_zero, List.setIfInBounds_toArray, List.set_cons_succ, List.set_cons_zero]
                    exact REST1 g35 g36 w_ M.out
                case hB =>
                  intro g35 w_ m
                  have M := Lib.hid m
                  clear m
                  refine any1H 11 (by kernel_rfl) rfl (fun K hK => ?_)
                  go_wp2_with (first | ((with_reducible refine gate_dst (N := 36) rfl ?_); go_must (refine M.out.ev_new rfl (by first | (go_simp; done) | (go_simp; rfl)) ?_); intro g36 w36 m; simp only [List.cons_append, List.nil_append] at m; have M := Lib.hid m; clear m; try have q5_0 := M.out.cell (j := 0) 5 rfl (by first | assumption | rfl); try have q5_2 := M.out.cell (j := 2) 5 rfl (by first | assumption | rfl); try have q5_1 := M.out.cell (j := 1) 5 rfl (by first | assumption | rfl)))
                  refine onward_normal (hK _ _ ⟨(by first | exact M.out | exact M.out.take 7), ?_⟩)
                  clear hK K
                  try simp only [Act.put, List.getElem_toArray, List.getElem_cons_succ, List.getElem_cons_zero, List.setIfInBounds_toArray, List.set_cons_succ, List.set_cons_zero]
                  exact REST1 g35 g36 w36 M.out
              case hB =>
                intro g36 w_ m
                have M := Lib.hid m
                clear m
                refine any1H 10 (by kernel_rfl) rfl (fun K hK => ?_)
                go_wp2_with (first | ((with_reducible refine gate_dst (N := 35) rfl ?_); go_must (refine M.out.ev_new rfl (by first | (go_simp; done) | (go_simp; rfl)) ?_); intro g35 w35 m; simp only [List.cons_append, List.nil_append] at m; have M := Lib.hid m; clear m; try have q5_0 := M.out.cell (j := 0) 5 rfl (by first | assumption | rfl); try have q5_2 := M.out.cell (j := 2) 5 rfl (by first | assumption | rfl); try have q5_1 := M.out.cell (j := 1) 5 rfl (by first | assumption | rfl)))
                refine onward_normal (hK _ _ ⟨(by first | exact M.out | exact M.out.take 7), ?_⟩)
                clear hK K
                try simp only [Act.put, List.getElem_toArray, List.getElem_cons_succ, List.getElem_cons_zero, List.setIfInBounds_toArray, List.set_cons_succ, List.set_cons_zero]
                have m := M.out.only [0, 1, 2, 3, 4, 5, 6, 8, 7] (K := [_, _, _, _, _, _, _, _, _]) rfl (by decide)
                exact REST1 g35 g36 w35 m
            case hB =>
              intro g35 g36 w_ m
              have M := Lib.hid m
              clear m
              refine any1H 12 (by kernel_rfl) rfl (fun K hK => ?_)
              go_wp2_with (first | ((with_reducible refine gate_store (x := .tmp 35) rfl ?_); go_must (first | (refine M.out.ev_stw 7 _ _ _ rfl rfl rfl rfl _ rfl (by rw [SO.out]; exact szZ) (by rw [SO.out]; exact sz29) (Fld.one _) rfl ?_) | (refine M.out.ev_stw 8 _ _ _ rfl rfl rfl rfl _ rfl (by rw [SO.out]; exact szZ) (by rw [SO.out]; exact sz29) (Fld.one _) rfl ?_)); intro wn m; simp only [List.set_cons_zero, List.set_cons_succ] at m; have M := Lib.hid m; clear m) | ((with_reducible refine gate_store (x := .tmp 35) rfl ?_); go_must (first | (refine M.out.ev_stw 7 _ _ _ rfl rfl rfl rfl _ rfl (by first | rfl | (simp only [S1.out]; rfl) | (simp only [S1.out, S2.out]; rfl) | (simp only [S3.out]; rfl) | (simp only [S1.out, S2.out, S3.out]; rfl)) (by first | exact sz29 | (rw [S1.out]; exact sz29) | (rw [S2.out]; exact sz29) | (rw [S3.out]; exact sz29)) (by first | exact ints_one _ _ | exact Fld.one _ | exact O1.out | exact Fld.one _ | exact Visit.one _ | exact ints_one _ _ | rfl | (simp [Value.oneCell']; done)) rfl ?_) | (refine M.out.ev_stw 8 _ _ _ rfl rfl rfl rfl _ rfl (by first | rfl | (simp only [S1.out]; rfl) | (simp only [S1.out, S2.out]; rfl) | (simp only [S3.out]; rfl) | (simp only [S1.out, S2.out, S3.out]; rfl)) (by first | exact sz29 | (rw [S1.out]; exact sz29) | (rw [S2.out]; exact sz29) | (rw [S3.out]; exact sz29)) (by first | exact ints_one _ _ | exact Fld.one _ | exact O1.out | exact Fld.one _ | exact Visit.one _ | exact ints_one _ _ | rfl | (simp [Value.oneCell']; done)) rfl ?_)); intro wn m; simp only [List.set_cons_succ, List.set_cons_zero, List.setIfInBounds_toArray] at m; have M := Lib.hid m; clear m; try have q5_0 := M.out.cell (j := 0) 5 rfl (by first | assumption | rfl); try have q5_2 := M.out.cell (j := 2) 5 rfl (by first | assumption | rfl); try have q5_1 := M.out.cell (j := 1) 5 rfl (by first | assumption | rfl)))
              refine onward_normal (hK _ _ ⟨(by first | exact M.out | exact M.out.take 7), ?_⟩)
              clear hK K
              try simp only [Act.put, List.getElem_toArray, List.getElem_cons_succ, List.getElem_cons_zero, List.setIfInBounds_toArray, List.set_cons_succ, List.set_cons_zero]
              refine any1H 13 (by kernel_rfl) rfl (fun K hK => ?_)
              go_wp2_with (first | ((with_reducible refine gate_store (x := .tmp 36) rfl ?_); go_must (first | (refine M.out.ev_stw 7 _ _ _ rfl rfl rfl rfl _ rfl (by first | rfl | (simp only [S1.out]; rfl) | (simp only [S1.out, S2.out]; rfl) | (simp only [S3.out]; rfl) | (simp only [S1.out, S2.out, S3.out]; rfl)) (by first | exact sz51 | (rw [S1.out]; exact sz51) | (rw [S2.out]; exact sz51) | (rw [S3.out]; exact sz51)) (by first | exact ints_one _ _ | exact Fld.one _ | exact O1.out | exact Fld.one _ | exact Visit.one _ | exact ints_one _ _ | rfl | (simp [Value.oneCell']; done)) rfl ?_) | (refine M.out.ev_stw 8 _ _ _ rfl rfl rfl rfl _ rfl (by first | rfl | (simp only [S1.out]; rfl) | (simp only [S1.out, S2.out]; rfl) | (simp only [S3.out]; rfl) | (simp only [S1.out, S2.out, S3.out]; rfl)) (by first | exact sz51 | (rw [S1.out]; exact sz51) | (rw [S2.out]; exact sz51) | (rw [S3.out]; exact sz51)) (by first | exact ints_one _ _ | exact Fld.one _ | exact O1.out | exact Fld.one _ | exact Visit.one _ | exact ints_one _ _ | rfl | (simp [Value.oneCell']; done)) rfl ?_)); intro wn m; simp only [List.set_cons_succ, List.set_cons_zero, List.setIfInBounds_toArray] at m; have M := Lib.hid m; clear m; try have q5_0 := M.out.cell (j := 0) 5 rfl (by first | assumption | rfl); try have q5_2 := M.out.cell (j := 2) 5 rfl (by first | assumption | rfl); try have q5_1 := M.out.cell (j := 1) 5 rfl (by first | assumption | rfl)))
              refine onward_normal (hK _ _ ⟨(by first | exact M.out | exact M.out.take 7), ?_⟩)
              clear hK K
              try simp only [Act.put, List.getElem_toArray, List.getElem_cons_succ, List.getElem_cons_zero, List.setIfInBounds_toArray, List.set_cons_succ, List.set_cons_zero]
              apply takeH (i := 14) 37 rfl (by kernel_rfl) (by kernel_rfl) (by kernel_rfl) (fun _ _ _ h => h) rfl (by first | exact M.out | exact M.out.take 7)
              case' hy =>
                refine Or.inl ⟨by first | rfl | (go_simp; done), ?_⟩
                intro w hS
                clear hS
                go_simp
                try with_reducible rfl
              try simp only [Act.put, List.getElem_toArray, List.getElem_cons_succ, List.getElem_cons_zero, List.setIfInBounds_toArray, List.set_cons_succ, List.set_cons_zero]
              exact REST0 g35 g36 wn M.out
          intro g35 g36 w_ m
          have M := Lib.hid m
          clear m M9
          refine wpAnyH_done (by kernel_rfl) ?_ _
          have z4 : decide (4 < ws.length) = false := decide_eq_false (by omega)
          have heq := fun w => neqFld G2 C.out.g1 w
          by_cases hz : z = 0
          · as_aux_lemma =>
            subst hz
            obtain ⟨hw0, k, hk, hvc, hO, hq0, hq1, hs0, hs1⟩ := C.out.o1 rfl
            rcases V with ⟨vf, vc, q⟩
            change vc = (k : Int) at hvc
            subst hvc
            dsimp only at hO hq0 hq1
            have hwp : 0 < ws.length := (List.getElem?_eq_some_iff.1 hw0).1
            have HW0 := Lib.hid hw0
            have KF0 := Lib.hid (Fld.cellS WF.out.ok.toLen hk)
            have KO := Lib.hid (show O.cells[102 + k]? = some (.int .i16 (F.seed k - q)) by
              rw [hO, Fld.cellS (Fld.withSeed_len WF.out.ok.toLen k _) hk, Fld.seed_ws WF.out.ok.toLen hk, if_pos rfl])
            have HWP := Lib.hid hwp
            have d0 : decide (0 < ws.length) = true := decide_eq_true hwp
            obtain ⟨wb, wo, rfl, _⟩ := (M.out.slof 5 rfl).2 hwp
            obtain ⟨sk, hsk⟩ : ∃ sk, sk = F.seed k := ⟨_, rfl⟩
            rw [← hsk] at KF0 KO hs0 hs1
            clear hw0 hO hsk hwp
            have w6 : IntKind.i16.wrap (sk - q) = sk - q := IntWalk.i16_in _ (by omega)
            have a2 : (0 : Int) ≤ (k : Int) := by omega
            have a3 : (k : Int) < 100 := by omega
            have b0 : (0 : Int) < (ws.length : Int) := by have := HWP.out; omega
            have b1 : 0 < ws.length := HWP.out
            have heq2 := neqVisit ⟨vf, k, q⟩
            go_wp2_with (first
              | ((with_reducible refine gate_dst (N := 354) rfl ?_); refine gate_want rfl ?_; go_must (refine M.out.ev_ldw 4 _ _ rfl rfl rfl Try.underlying29 rfl (by rw [S2.out]; exact sz29) rfl ?_))
              | ((with_reducible refine gate_dst (N := 355) rfl ?_); refine gate_want rfl ?_; go_must (refine M.out.ev_ldw 6 _ _ rfl rfl rfl Try.underlying29 rfl (by rw [S2.out]; exact sz29) rfl ?_))
              | (go_at_call 13; go_must (refine (VisitSame_any _ _ _ _ ws _ wl5 (M.out.slof 3 rfl) (M.out.slof 5 rfl)).mono ?_); rintro e w_ ⟨rfl, N_⟩; have m := M.out.join N_; clear N_; simp only [List.cons_append, List.nil_append, List.append_nil] at m; have M := Lib.hid m; clear m)
              )
            refine region_anyH (fun w' => Mem w w' [.blk g5 29 F.cells, .blk g6 31 (ints .i16 fs), .row (.slice (some ⟨xb, xo, none⟩) xs.length cp) 48 6 xs.length (flat Flock.vals xs), .row (.slice A322 ws.length c322) 51 3 ws.length (flat Visit.vals ws), .blk g29 29 G2.cells, .row (.slice (some ⟨wb, wo, none⟩) ws.length c332) 51 3 ws.length (flat Visit.vals ws), .blk g32 29 G2.cells, .blk g35 29 O.cells, .blk g36 51 (Visit.vals ⟨vf, k, q⟩).toArray]) (by kernel_rfl) ?_
            have m := M.out.drew
            clear M
            have M := Lib.hid m
            clear m
            apply takeH (i := 0) 377 rfl (by kernel_rfl) (by kernel_rfl) (by kernel_rfl) (fun _ _ _ h => h) rfl (by first | exact M.out | exact M.out.take 9)
            case' hy =>
              refine Or.inl ⟨by first | rfl | (go_simp; done), ?_⟩
              intro w hS
              clear hS
              go_simp
              try with_reducible rfl
            try simp only [Act.put, List.getElem_toArray, List.getElem_cons_succ, List.getElem_cons_zero, List.setIfInBounds_toArray, List.set_cons_succ, List.set_cons_zero]
            apply takeH (i := 1) 378 rfl (by kernel_rfl) (by kernel_rfl) (by kernel_rfl) (fun _ _ _ h => h) rfl (by first | exact M.out | exact M.out.take 9)
            case' hy =>
              refine Or.inl ⟨by first | rfl | (go_simp; done), ?_⟩
              intro w hS
              clear hS
              go_simp
              try with_reducible rfl
            try simp only [Act.put, List.getElem_toArray, List.getElem_cons_succ, List.getElem_cons_zero, List.setIfInBounds_toArray, List.set_cons_succ, List.set_cons_zero]
            apply takeH (i := 2) 379 rfl (by kernel_rfl) (by kernel_rfl) (by kernel_rfl) (fun _ _ _ h => h) rfl (by first | exact M.out | exact M.out.take 9)
            case' hy =>
              refine Or.inl ⟨by first | rfl | (go_simp; done), ?_⟩
              intro w hS
              clear hS
              go_simp
              try with_reducible rfl
            try simp only [Act.put, List.getElem_toArray, List.getElem_cons_succ, List.getElem_cons_zero, List.setIfInBounds_toArray, List.set_cons_succ, List.set_cons_zero]
            apply takeH (i := 3) 380 rfl (by kernel_rfl) (by kernel_rfl) (by kernel_rfl) (fun _ _ _ h => h) rfl (by first | exact M.out | exact M.out.take 9)
            case' hy => exact yldwW _ _ rfl (by first | rfl | (go_simp; done)) Try.underlying51 rfl (by first | exact sz51 | (rw [S1.out]; exact sz51) | (rw [S2.out]; exact sz51) | (rw [S3.out]; exact sz51)) rfl (fun w' hS => hS.blk 8 rfl)
            try simp only [Act.put, List.getElem_toArray, List.getElem_cons_succ, List.getElem_cons_zero, List.setIfInBounds_toArray, List.set_cons_succ, List.set_cons_zero]
            apply takeH (i := 4) 381 rfl (by kernel_rfl) (by kernel_rfl) (by kernel_rfl) (fun _ _ _ h => h) rfl (by first | exact M.out | exact M.out.take 9)
            case' hy =>
              refine Or.inl ⟨by first | rfl | (go_simp; done), ?_⟩
              intro w hS
              clear hS
              go_simp
              try with_reducible rfl
            try simp only [Act.put, List.getElem_toArray, List.getElem_cons_succ, List.getElem_cons_zero, List.setIfInBounds_toArray, List.set_cons_succ, List.set_cons_zero]
            apply takeH (i := 5) 382 rfl (by kernel_rfl) (by kernel_rfl) (by kernel_rfl) (fun _ _ _ h => h) rfl (by first | exact M.out | exact M.out.take 9)
            case' hy =>
              refine Or.inl ⟨by first | rfl | (go_simp; done), ?_⟩
              intro w hS
              clear hS
              go_simp
              try with_reducible rfl
            try simp only [Act.put, List.getElem_toArray, List.getElem_cons_succ, List.getElem_cons_zero, List.setIfInBounds_toArray, List.set_cons_succ, List.set_cons_zero]
            apply takeH (i := 6) 383 rfl (by kernel_rfl) (by kernel_rfl) (by kernel_rfl) (fun _ _ _ h => h) rfl (by first | exact M.out | exact M.out.take 9)
            case' hy => exact yieldsIf_load_mid (by first | rfl | (go_simp; done)) _ _ rfl _ _ rfl _ _ (fun w' hS => (show World.rangeAt w' wb wo (Visit.vals ⟨vf, k, q⟩) from by have h := range_at Visit.vl (sl_rangeVisit (hS.slof 5 rfl) HWP.out) HW0.out; rw [Nat.zero_mul, Nat.add_zero] at h; exact h)) Try.underlying51 rfl sz51
            try simp only [Act.put, List.getElem_toArray, List.getElem_cons_succ, List.getElem_cons_zero, List.setIfInBounds_toArray, List.set_cons_succ, List.set_cons_zero]
            apply takeH (i := 7) 384 rfl (by kernel_rfl) (by kernel_rfl) (by kernel_rfl) (fun _ _ _ h => h) rfl (by first | exact M.out | exact M.out.take 9)
            case' hy =>
              refine Or.inl ⟨by first | rfl | (go_simp; done), ?_⟩
              intro w hS
              clear hS
              go_simp
              try with_reducible rfl
            try simp only [Act.put, List.getElem_toArray, List.getElem_cons_succ, List.getElem_cons_zero, List.setIfInBounds_toArray, List.set_cons_succ, List.set_cons_zero]
            apply takeH (i := 8) 385 rfl (by kernel_rfl) (by kernel_rfl) (by kernel_rfl) (fun _ _ _ h => h) rfl (by first | exact M.out | exact M.out.take 9)
            case' hy =>
              refine Or.inl ⟨by first | rfl | (go_simp; done), ?_⟩
              intro w hS
              clear hS
              go_simp
              try with_reducible rfl
            try simp only [Act.put, List.getElem_toArray, List.getElem_cons_succ, List.getElem_cons_zero, List.setIfInBounds_toArray, List.set_cons_succ, List.set_cons_zero]
            apply takeH (i := 9) 386 rfl (by kernel_rfl) (by kernel_rfl) (by kernel_rfl) (fun _ _ _ h => h) rfl (by first | exact M.out | exact M.out.take 9)
            case' hy =>
              refine Or.inl ⟨by first | rfl | (go_simp; done), ?_⟩
              intro w hS
              clear hS
              go_simp
              try with_reducible rfl
            try simp only [Act.put, List.getElem_toArray, List.getElem_cons_succ, List.getElem_cons_zero, List.setIfInBounds_toArray, List.set_cons_succ, List.set_cons_zero]
            apply takeH (i := 10) 387 rfl (by kernel_rfl) (by kernel_rfl) (by kernel_rfl) (fun _ _ _ h => h) rfl (by first | exact M.out | exact M.out.take 9)
            case' hy =>
              refine Or.inl ⟨by first | rfl | (go_simp; done), ?_⟩
              intro w hS
              clear hS
              go_simp
              try with_reducible rfl
            try simp only [Act.put, List.getElem_toArray, List.getElem_cons_succ, List.getElem_cons_zero, List.setIfInBounds_toArray, List.set_cons_succ, List.set_cons_zero]
            apply takeH (i := 11) 388 rfl (by kernel_rfl) (by kernel_rfl) (by kernel_rfl) (fun _ _ _ h => h) rfl (by first | exact M.out | exact M.out.take 9)
            case' hy =>
              refine Or.inl ⟨by first | rfl | (go_simp; done), ?_⟩
              intro w hS
              clear hS
              go_simp
              try with_reducible rfl
            try simp only [Act.put, List.getElem_toArray, List.getElem_cons_succ, List.getElem_cons_zero, List.setIfInBounds_toArray, List.set_cons_succ, List.set_cons_zero]
            apply takeH (i := 12) 389 rfl (by kernel_rfl) (by kernel_rfl) (by kernel_rfl) (fun _ _ _ h => h) rfl (by first | exact M.out | exact M.out.take 9)
            case' hy => exact yldsW _ _ rfl (by first | rfl | (go_simp; done)) Try.underlying26 rfl rfl (fun w' hS => (show World.cell? w' ⟨wb, wo + 1, none⟩ = some (.int .i16 k) from by have h := range_at Visit.vl (sl_rangeVisit (hS.slof 5 rfl) HWP.out) HW0.out 1 _ rfl; rw [Nat.zero_mul, Nat.add_zero] at h; exact h))
            try simp only [Act.put, List.getElem_toArray, List.getElem_cons_succ, List.getElem_cons_zero, List.setIfInBounds_toArray, List.set_cons_succ, List.set_cons_zero]
            apply takeH (i := 13) 390 rfl (by kernel_rfl) (by kernel_rfl) (by kernel_rfl) (fun _ _ _ h => h) rfl (by first | exact M.out | exact M.out.take 9)
            case' hy =>
              refine Or.inl ⟨by first | rfl | (go_simp; done), ?_⟩
              intro w hS
              clear hS
              go_simp
              try with_reducible rfl
            try simp only [Act.put, List.getElem_toArray, List.getElem_cons_succ, List.getElem_cons_zero, List.setIfInBounds_toArray, List.set_cons_succ, List.set_cons_zero]
            apply takeH (i := 14) 391 rfl (by kernel_rfl) (by kernel_rfl) (by kernel_rfl) (fun _ _ _ h => h) rfl (by first | exact M.out | exact M.out.take 9)
            case' hy =>
              refine Or.inl ⟨by first | rfl | (go_simp; done), ?_⟩
              intro w hS
              clear hS
              go_simp
              try with_reducible rfl
            try simp only [Act.put, List.getElem_toArray, List.getElem_cons_succ, List.getElem_cons_zero, List.setIfInBounds_toArray, List.set_cons_succ, List.set_cons_zero]
            apply takeH (i := 15) 392 rfl (by kernel_rfl) (by kernel_rfl) (by kernel_rfl) (fun _ _ _ h => h) rfl (by first | exact M.out | exact M.out.take 9)
            case' hy => exact yldsW _ _ rfl (by first | rfl | (go_simp; done)) Try.underlying26 rfl rfl (fun w' hS => hS.cell 7 rfl KO.out)
            try simp only [Act.put, List.getElem_toArray, List.getElem_cons_succ, List.getElem_cons_zero, List.setIfInBounds_toArray, List.set_cons_succ, List.set_cons_zero]
            apply takeH (i := 16) 393 rfl (by kernel_rfl) (by kernel_rfl) (by kernel_rfl) (fun _ _ _ h => h) rfl (by first | exact M.out | exact M.out.take 9)
            case' hy =>
              refine Or.inl ⟨by first | rfl | (go_simp; done), ?_⟩
              intro w hS
              clear hS
              go_simp
              try with_reducible rfl
            try simp only [Act.put, List.getElem_toArray, List.getElem_cons_succ, List.getElem_cons_zero, List.setIfInBounds_toArray, List.set_cons_succ, List.set_cons_zero]
            apply takeH (i := 17) 394 rfl (by kernel_rfl) (by kernel_rfl) (by kernel_rfl) (fun _ _ _ h => h) rfl (by first | exact M.out | exact M.out.take 9)
            case' hy =>
              refine Or.inl ⟨by first | rfl | (go_simp; done), ?_⟩
              intro w hS
              clear hS
              go_simp
              try with_reducible rfl
            try simp only [Act.put, List.getElem_toArray, List.getElem_cons_succ, List.getElem_cons_zero, List.setIfInBounds_toArray, List.set_cons_succ, List.set_cons_zero]
            apply takeH (i := 18) 395 rfl (by kernel_rfl) (by kernel_rfl) (by kernel_rfl) (fun _ _ _ h => h) rfl (by first | exact M.out | exact M.out.take 9)
            case' hy =>
              refine Or.inl ⟨by first | rfl | (go_simp; done), ?_⟩
              intro w hS
              clear hS
              go_simp
              try with_reducible rfl
            try simp only [Act.put, List.getElem_toArray, List.getElem_cons_succ, List.getElem_cons_zero, List.setIfInBounds_toArray, List.set_cons_succ, List.set_cons_zero]
            apply takeH (i := 19) 396 rfl (by kernel_rfl) (by kernel_rfl) (by kernel_rfl) (fun _ _ _ h => h) rfl (by first | exact M.out | exact M.out.take 9)
            case' hy => exact yldsW _ _ rfl (by first | rfl | (go_simp; done)) Try.underlying26 rfl rfl (fun w' hS => (show World.cell? w' ⟨wb, wo + 1, none⟩ = some (.int .i16 k) from by have h := range_at Visit.vl (sl_rangeVisit (hS.slof 5 rfl) HWP.out) HW0.out 1 _ rfl; rw [Nat.zero_mul, Nat.add_zero] at h; exact h))
            try simp only [Act.put, List.getElem_toArray, List.getElem_cons_succ, List.getElem_cons_zero, List.setIfInBounds_toArray, List.set_cons_succ, List.set_cons_zero]
            apply takeH (i := 20) 397 rfl (by kernel_rfl) (by kernel_rfl) (by kernel_rfl) (fun _ _ _ h => h) rfl (by first | exact M.out | exact M.out.take 9)
            case' hy =>
              refine Or.inl ⟨by first | rfl | (go_simp; done), ?_⟩
              intro w hS
              clear hS
              go_simp
              try with_reducible rfl
            try simp only [Act.put, List.getElem_toArray, List.getElem_cons_succ, List.getElem_cons_zero, List.setIfInBounds_toArray, List.set_cons_succ, List.set_cons_zero]
            apply takeH (i := 21) 398 rfl (by kernel_rfl) (by kernel_rfl) (by kernel_rfl) (fun _ _ _ h => h) rfl (by first | exact M.out | exact M.out.take 9)
            case' hy =>
              refine Or.inl ⟨by first | rfl | (go_simp; done), ?_⟩
              intro w hS
              clear hS
              go_simp
              try with_reducible rfl
            try simp only [Act.put, List.getElem_toArray, List.getElem_cons_succ, List.getElem_cons_zero, List.setIfInBounds_toArray, List.set_cons_succ, List.set_cons_zero]
            apply takeH (i := 22) 399 rfl (by kernel_rfl) (by kernel_rfl) (by kernel_rfl) (fun _ _ _ h => h) rfl (by first | exact M.out | exact M.out.take 9)
            case' hy => exact yldsW _ _ rfl (by first | rfl | (go_simp; done)) Try.underlying26 rfl rfl (fun w' hS => hS.cell 0 rfl KF0.out)
            try simp only [Act.put, List.getElem_toArray, List.getElem_cons_succ, List.getElem_cons_zero, List.setIfInBounds_toArray, List.set_cons_succ, List.set_cons_zero]
            apply takeH (i := 23) 400 rfl (by kernel_rfl) (by kernel_rfl) (by kernel_rfl) (fun _ _ _ h => h) rfl (by first | exact M.out | exact M.out.take 9)
            case' hy =>
              refine Or.inl ⟨by first | rfl | (go_simp; done), ?_⟩
              intro w hS
              clear hS
              go_simp
              try with_reducible rfl
            try simp only [Act.put, List.getElem_toArray, List.getElem_cons_succ, List.getElem_cons_zero, List.setIfInBounds_toArray, List.set_cons_succ, List.set_cons_zero]
            apply takeH (i := 24) 401 rfl (by kernel_rfl) (by kernel_rfl) (by kernel_rfl) (fun _ _ _ h => h) rfl (by first | exact M.out | exact M.out.take 9)
            case' hy =>
              refine Or.inl ⟨by first | rfl | (go_simp; done), ?_⟩
              intro w hS
              clear hS
              go_simp
              try with_reducible rfl
            try simp only [Act.put, List.getElem_toArray, List.getElem_cons_succ, List.getElem_cons_zero, List.setIfInBounds_toArray, List.set_cons_succ, List.set_cons_zero]
            apply takeH (i := 25) 402 rfl (by kernel_rfl) (by kernel_rfl) (by kernel_rfl) (fun _ _ _ h => h) rfl (by first | exact M.out | exact M.out.take 9)
            case' hy =>
              refine Or.inl ⟨by first | rfl | (go_simp; done), ?_⟩
              intro w hS
              clear hS
              go_simp
              try with_reducible rfl
            try simp only [Act.put, List.getElem_toArray, List.getElem_cons_succ, List.getElem_cons_zero, List.setIfInBounds_toArray, List.set_cons_succ, List.set_cons_zero]
            apply takeH (i := 26) 403 rfl (by kernel_rfl) (by kernel_rfl) (by kernel_rfl) (fun _ _ _ h => h) rfl (by first | exact M.out | exact M.out.take 9)
            case' hy => exact yldsW _ _ rfl (by first | rfl | (go_simp; done)) Try.underlying26 rfl rfl (fun w' hS => (show World.cell? w' ⟨wb, wo + 2, none⟩ = some (.int .i16 q) from by have h := range_at Visit.vl (sl_rangeVisit (hS.slof 5 rfl) HWP.out) HW0.out 2 _ rfl; rw [Nat.zero_mul, Nat.add_zero] at h; exact h))
            try simp only [Act.put, List.getElem_toArray, List.getElem_cons_succ, List.getElem_cons_zero, List.setIfInBounds_toArray, List.set_cons_succ, List.set_cons_zero]
            apply takeH (i := 27) 404 rfl (by kernel_rfl) (by kernel_rfl) (by kernel_rfl) (fun _ _ _ h => h) rfl (by first | exact M.out | exact M.out.take 9)
            case' hy =>
              refine Or.inl ⟨by first | rfl | (go_simp; done), ?_⟩
              intro w hS
              clear hS
              go_simp
              try with_reducible rfl
            try simp only [Act.put, List.getElem_toArray, List.getElem_cons_succ, List.getElem_cons_zero, List.setIfInBounds_toArray, List.set_cons_succ, List.set_cons_zero]
            apply takeH (i := 28) 405 rfl (by kernel_rfl) (by kernel_rfl) (by kernel_rfl) (fun _ _ _ h => h) rfl (by first | exact M.out | exact M.out.take 9)
            case' hy =>
              refine Or.inl ⟨by first | rfl | (go_simp; done), ?_⟩
              intro w hS
              clear hS
              go_simp
              try with_reducible rfl
            try simp only [Act.put, List.getElem_toArray, List.getElem_cons_succ, List.getElem_cons_zero, List.setIfInBounds_toArray, List.set_cons_succ, List.set_cons_zero]
            apply takeH (i := 29) 406 rfl (by kernel_rfl) (by kernel_rfl) (by kernel_rfl) (fun _ _ _ h => h) rfl (by first | exact M.out | exact M.out.take 9)
            case' hy =>
              refine Or.inl ⟨by first | rfl | (go_simp; done), ?_⟩
              intro w hS
              clear hS
              go_simp
              try with_reducible rfl
            try simp only [Act.put, List.getElem_toArray, List.getElem_cons_succ, List.getElem_cons_zero, List.setIfInBounds_toArray, List.set_cons_succ, List.set_cons_zero]
            apply takeH (i := 30) 407 rfl (by kernel_rfl) (by kernel_rfl) (by kernel_rfl) (fun _ _ _ h => h) rfl (by first | exact M.out | exact M.out.take 9)
            case' hy =>
              refine Or.inl ⟨by first | rfl | (go_simp; done), ?_⟩
              intro w hS
              clear hS
              go_simp
              try with_reducible rfl
            try simp only [Act.put, List.getElem_toArray, List.getElem_cons_succ, List.getElem_cons_zero, List.setIfInBounds_toArray, List.set_cons_succ, List.set_cons_zero]
            refine wpAnyH_done (by kernel_rfl) ?_ _
            have mm := M.out.only [0, 1, 2] (K := [_, _, _]) rfl (by decide)
            clear M heq S2 S3 SO
            have M := Lib.hid mm
            clear mm
            have S2 := Lib.hid (Fld.size C.out.dl)
            have z3 : ((L.length : Int) != 3) = false := by have := C.out.l3; simp; omega
            have l3 : 3 ≤ L.length := by have := C.out.l3; omega
            go_wp2_with (first
              | ((with_reducible refine gate_dst (N := 409) rfl ?_); go_must (refine M.out.ev_ldw 0 _ _ rfl rfl rfl Try.underlying29 rfl (by rw [S1.out]; exact sz29) rfl ?_))
              | ((with_reducible refine gate_dst (N := 410) rfl ?_); go_must (refine M.out.ev_ldw 1 _ _ rfl rfl rfl Try.underlying31 rfl (by rw [SF.out]; exact sz31) rfl ?_))
              | (go_at_call 21; go_must (refine (C.out.fd _ _ _ (M.out.slof 2 rfl)).mono ?_); rintro e w_ ⟨A39, c39, rfl, hc39, N_⟩; have m := M.out.join N_; clear N_; simp only [List.cons_append, List.nil_append, List.append_nil] at m; have M := Lib.hid m; clear m)
              | ((with_reducible refine gate_dst (N := 38) rfl ?_); go_must (refine M.out.ev_new rfl (by first | (go_simp; done) | (go_simp; rfl)) ?_); intro g38 w38 m; simp only [List.cons_append, List.nil_append] at m; have M := Lib.hid m; clear m)
              | ((with_reducible refine gate_store (x := .tmp 38) rfl ?_); go_must (refine M.out.ev_stw 4 _ _ _ rfl rfl rfl rfl _ rfl (by rw [S2.out]; exact szZ) (by rw [S2.out]; exact sz29) (Fld.one _) rfl ?_); intro wn m; simp only [List.set_cons_zero, List.set_cons_succ] at m; have M := Lib.hid m; clear m)
              | ((with_reducible refine gate_dst (N := 416) rfl ?_); go_must (refine M.out.ev_ldw 0 _ _ rfl rfl rfl Try.underlying29 rfl (by rw [S1.out]; exact sz29) rfl ?_))
              | ((with_reducible refine gate_dst (N := 41) rfl ?_); go_must (refine M.out.ev_new rfl (by first | (go_simp; done) | (go_simp; rfl)) ?_); intro g41 w41 m; simp only [List.cons_append, List.nil_append] at m; have M := Lib.hid m; clear m)
              | ((with_reducible refine gate_store (x := .tmp 41) rfl ?_); go_must (refine M.out.ev_stw 5 _ _ _ rfl rfl rfl rfl _ rfl (by rw [S1.out]; exact szZ) (by rw [S1.out]; exact sz29) (Fld.one _) rfl ?_); intro wn m; simp only [List.set_cons_zero, List.set_cons_succ] at m; have M := Lib.hid m; clear m)
              )
            clear z3
            go_loopw [42] (fun v wr => ∃ d : Nat, d ≤ 3 ∧ v = .int .i64 d ∧ Mem w wr [.blk g5 29 F.cells, .blk g6 31 (ints .i16 fs), .row (.slice (some ⟨xb, xo, none⟩) xs.length cp) 48 6 xs.length (flat Flock.vals xs), .row (.slice A39 L.length c39) 2 1 L.length (flat oneI L), .blk g38 29 D.cells, .blk g41 29 (K d).cells])
              (fun v _ => 3 - (intOf v).toNat)
            case atStart => exact ⟨0, by omega, rfl, by rw [C.out.k0]; exact M.out⟩
            case round =>
              clear M
              obtain ⟨d, hd, rfl, m⟩ := hrel
              have M := Lib.hid m
              clear m
              by_cases hlt : d < 3
              · as_aux_lemma =>
                obtain ⟨ok1, v1, ok2, v2, hy, us, hsa⟩ := C.out.day d hlt
                have HSA := Lib.hid hsa
                have OK1 := Lib.hid ok1
                have OK2 := Lib.hid ok2
                have HV1 := Lib.hid v1
                have HV2 := Lib.hid v2
                have HLD := Lib.hid (gi_atF (ds := L) (i := d) (by omega))
                obtain ⟨lb, lo, rfl, _⟩ := (M.out.slof 3 rfl).2 (by omega)
                have q1 := seedSum_b ok1 100
                have q2 := seedSum_b ok2 100
                obtain ⟨KA, hKA⟩ : ∃ KA, KA = K d := ⟨_, rfl⟩
                obtain ⟨KB, hKB⟩ : ∃ KB, KB = K (d + 1) := ⟨_, rfl⟩
                rw [← hKA] at M HSA OK1 HV1 hy q1
                rw [← hKB] at HSA OK2 HV2 hy q2
                obtain ⟨y, hyy⟩ : ∃ y, y = gi L d := ⟨_, rfl⟩
                rw [← hyy] at HLD hy
                have HKB := Lib.hid hKB
                have S3 := Lib.hid (Fld.size OK1.out.toLen)
                have S4 := Lib.hid (Fld.size OK2.out.toLen)
                have w7 : IntKind.i64.wrap (seedSum KA 100 - seedSum KB 100) = y := by rw [hy]; exact IntWalk.i64_in _ (by omega)
                have i0 : (0 : Int) ≤ (d : Int) := by omega
                have i1 : (d : Int) < 3 := by omega
                have i3 : (d : Int) < (L.length : Int) := by omega
                clear hsa ok1 v1 ok2 v2 hKA hKB hyy hy q1 q2
                go_wp2_with (first
                  | ((with_reducible refine gate_dst (N := 429) rfl ?_); go_must (refine M.out.ev_ldw 5 _ _ rfl rfl rfl Try.underlying29 rfl (by rw [S3.out]; exact sz29) rfl ?_))
                  | ((with_reducible refine gate_dst (N := 430) rfl ?_); go_must (refine M.out.ev_ldw 1 _ _ rfl rfl rfl Try.underlying31 rfl (by rw [SF.out]; exact sz31) rfl ?_))
                  | (go_at_call 9; go_must (refine (HSA.out _ _ _ (M.out.slof 2 rfl)).mono ?_); rintro e w_ ⟨A44, c44, rfl, hc44, N_⟩; have m := M.out.join N_; clear N_; simp only [List.cons_append, List.nil_append, List.append_nil] at m; have M := Lib.hid m; clear m)
                  | ((with_reducible refine gate_dst (N := 43) rfl ?_); go_must (refine M.out.ev_new rfl (by first | (go_simp; done) | (go_simp; rfl)) ?_); intro g43 w43 m; simp only [List.cons_append, List.nil_append] at m; have M := Lib.hid m; clear m)
                  | ((with_reducible refine gate_store (x := .tmp 43) rfl ?_); go_must (refine M.out.ev_stw 7 _ _ _ rfl rfl rfl rfl _ rfl (by rw [S4.out]; exact szZ) (by rw [S4.out]; exact sz29) (Fld.one _) rfl ?_); intro wn m; simp only [List.set_cons_zero, List.set_cons_succ] at m; have M := Lib.hid m; clear m)
                  | ((with_reducible refine gate_dst (N := 437) rfl ?_); go_must (refine M.out.ev_ldw 5 _ _ rfl rfl rfl Try.underlying29 rfl (by rw [S3.out]; exact sz29) rfl ?_))
                  | ((with_reducible refine gate_dst (N := 442) rfl ?_); go_must (refine M.out.ev_ldw 7 _ _ rfl rfl rfl Try.underlying29 rfl (by rw [S4.out]; exact sz29) rfl ?_))
                  | (go_at_call 22; go_must (first | (refine Calls.mono (calls_args (by with_reducible rfl) (spec_SeedsIn_any KA OK1.out HV1.out _)) ?_) | (refine Calls.mono (calls_args (by with_reducible rfl) (spec_SeedsIn_any KB OK2.out HV2.out _)) ?_)); rintro e w_ ⟨rfl, N_⟩; have m := M.out.join N_; clear N_; simp only [List.cons_append, List.nil_append, List.append_nil] at m; have M := Lib.hid m; clear m; have x1 := (M.out.slof 3 rfl).atF HLD.out)
                  | ((with_reducible refine gate_dst (N := 466) rfl ?_); go_must (refine M.out.ev_ldw 7 _ _ rfl rfl rfl Try.underlying29 rfl (by rw [S4.out]; exact sz29) rfl ?_))
                  | ((with_reducible refine gate_store (x := .tmp 41) rfl ?_); go_must (refine M.out.ev_stw 5 _ _ _ rfl rfl rfl rfl _ rfl (by rw [S4.out, S3.out]) (by rw [S4.out]; exact sz29) (Fld.one _) rfl ?_); intro wn m; simp only [List.set_cons_zero, List.set_cons_succ] at m; have M := Lib.hid m; clear m)
                  )
                exact ⟨⟨d + 1, by omega, by go_num, by rw [← HKB.out]; exact M.out.take 6⟩, by simp [intOf]; try omega⟩
              · as_aux_lemma =>
                obtain rfl : d = 3 := by omega
                rw [C.out.k3] at M
                have heq := fun w => neqFld D C.out.dl w
                have HB0 := Lib.hid (C.out.ho 0 _ C.out.xh).2.1
                have hb5 := HB0.out
                have w8 : IntKind.i64.wrap x0.birds = x0.birds := IntWalk.i64_in _ (by omega)
                have w9 : IntKind.i64.wrap (x0.birds + 1) = x0.birds + 1 := IntWalk.i64_in _ (by omega)
                have i4 : (0 : Int) < (xs.length : Int) := by omega
                have hcap := M.out.row_cap 2 rfl
                have X1 := Lib.hid (fun (w' : World) (h : Sl w' 6 (some ⟨xb, xo, none⟩) xs.length (flat Flock.vals xs)) => show w'.cell? ⟨xb, xo + 1, none⟩ = some (.int .i16 x0.birds) from by
                  have h := range_at Flock.vl (sl_rangeFlock h hpos) HX0.out 1 _ rfl
                  rw [Nat.zero_mul, Nat.add_zero] at h
                  exact h)
                clear hlt
                go_wp2_with (first
                  | ((with_reducible refine gate_dst (N := 467) rfl ?_); go_must (refine M.out.ev_ldw 4 _ _ rfl rfl rfl Try.underlying29 rfl (by rw [S2.out]; exact sz29) rfl ?_))
                  | ((with_reducible refine gate_dst (N := 468) rfl ?_); go_must (refine M.out.ev_ldw 5 _ _ rfl rfl rfl Try.underlying29 rfl (by rw [S2.out]; exact sz29) rfl ?_))
                  | ((with_reducible refine gate_dst (N := 471) rfl ?_); go_must (refine M.out.ev_ldw 0 _ _ rfl rfl rfl Try.underlying29 rfl (by rw [S1.out]; exact sz29) rfl ?_))
                  | (go_at_call 23; go_must (first | (refine Calls.mono (calls_args (by with_reducible rfl) (C.out.bi _ _ _ (M.out.slof 2 rfl))) ?_; rintro e w_ ⟨rfl, N_⟩; have m := M.out.join N_; clear N_; simp only [List.cons_append, List.nil_append, List.append_nil] at m; have M := Lib.hid m; clear m; have x1 := X1.out _ (M.out.slof 2 rfl)) | (refine (HBY.out _ _ _ (M.out.slof 6 rfl)).mono ?_; rintro e w_ ⟨rfl, N_⟩; have m := M.out.join N_; clear N_; simp only [List.cons_append, List.nil_append, List.append_nil] at m; have M := Lib.hid m; clear m)))
                  | (go_at_call 24; go_must (refine (a2At_any B nb cs YC.out (x0.birds + 1) (by omega) _ (M.out.sl HT.out)).mono ?_); rintro e w_ ⟨r, rfl, r0, r1, rfl⟩; obtain ⟨ys, hyl, hyx, hsp, hby⟩ := C.out.sp r r0 (by omega); have HYX := Lib.hid hyx; have HSP := Lib.hid hsp; have HBY := Lib.hid hby; have y1 : ys.length ≤ xs.length + 1 := (by omega); have y2 : xs.length + 1 ≤ ys.length := (by omega); have y3 : ((ys.length : Int) == (xs.length : Int) + 1) = true := (by rw [beq_iff_eq]; omega); have w10 : IntKind.i64.wrap r = r := IntWalk.i64_in _ (by omega); clear hyl hyx hsp hby)
                  | ((with_reducible refine gate_dst (N := 485) rfl ?_); go_must (refine M.out.ev_ldw 0 _ _ rfl rfl rfl Try.underlying29 rfl (by rw [S1.out]; exact sz29) rfl ?_))
                  | (go_at_call 25; go_must (refine (HSP.out _ _ hcp hcap (fun h => by cases h) _ (M.out.slof 2 rfl)).mono ?_); rintro e w_ ⟨A53, c53, rfl, hc53, N_⟩; have m := M.out.join N_; clear N_; simp only [List.cons_append, List.nil_append, List.append_nil] at m; have M := Lib.hid m; clear m)
                  | ((with_reducible refine gate_dst (N := 492) rfl ?_); go_must (refine M.out.ev_ldw 0 _ _ rfl rfl rfl Try.underlying29 rfl (by rw [S1.out]; exact sz29) rfl ?_))
                  )
                have mm := M.out.only [0, 1, 2, 6] (K := [_, _, _, _]) rfl (by decide)
                clear M heq
                have M := Lib.hid mm
                clear mm
                obtain ⟨yb, yo, rfl, _⟩ := (M.out.slof 3 rfl).2 (by omega)
                have TB := Lib.hid (Flock.plain_iff.1 (fine_plain (C.out.fine0))).1
                have htb := TB.out
                have w11 : IntKind.i64.wrap x0.tree = x0.tree := IntWalk.i64_in _ (by omega)
                refine region_anyH (fun w' => Mem w w' [.blk g5 29 F.cells, .blk g6 31 (ints .i16 fs), .row (.slice (some ⟨xb, xo, none⟩) xs.length cp) 48 6 xs.length (flat Flock.vals xs), .row (.slice (some ⟨yb, yo, none⟩) ys.length c53) 48 6 ys.length (flat Flock.vals ys)]) (by kernel_rfl) ?_
                have m := M.out.drew
                clear M
                have M := Lib.hid m
                clear m
                apply takeH (i := 0) 498 rfl (by kernel_rfl) (by kernel_rfl) (by kernel_rfl) (fun _ _ _ h => h) rfl (by first | exact M.out | exact M.out.take 4)
                case' hy => exact yldw _ _ rfl rfl Try.underlying29 rfl (by first | exact sz29 | (rw [S1.out]; exact sz29) | (rw [S2.out]; exact sz29) | (rw [S3.out]; exact sz29)) rfl (fun w' hS => hS.blk 0 rfl)
                try simp only [Act.put, List.getElem_toArray, List.getElem_cons_succ, List.getElem_cons_zero, List.setIfInBounds_toArray, List.set_cons_succ, List.set_cons_zero]
                apply takeH (i := 1) 499 rfl (by kernel_rfl) (by kernel_rfl) (by kernel_rfl) (fun _ _ _ h => h) rfl (by first | exact M.out | exact M.out.take 4)
                case' hy =>
                  refine Or.inl ⟨by first | rfl | (go_simp; done), ?_⟩
                  intro w hS
                  clear hS
                  go_simp
                  try with_reducible rfl
                try simp only [Act.put, List.getElem_toArray, List.getElem_cons_succ, List.getElem_cons_zero, List.setIfInBounds_toArray, List.set_cons_succ, List.set_cons_zero]
                apply takeH (i := 2) 500 rfl (by kernel_rfl) (by kernel_rfl) (by kernel_rfl) (fun _ _ _ h => h) rfl (by first | exact M.out | exact M.out.take 4)
                case' hy =>
                  refine Or.inl ⟨by first | rfl | (go_simp; done), ?_⟩
                  intro w hS
                  clear hS
                  go_simp
                  try with_reducible rfl
                try simp only [Act.put, List.getElem_toArray, List.getElem_cons_succ, List.getElem_cons_zero, List.setIfInBounds_toArray, List.set_cons_succ, List.set_cons_zero]
                apply takeH (i := 3) 501 rfl (by kernel_rfl) (by kernel_rfl) (by kernel_rfl) (fun _ _ _ h => h) rfl (by first | exact M.out | exact M.out.take 4)
                case' hy =>
                  refine Or.inl ⟨by first | rfl | (go_simp; done), ?_⟩
                  intro w hS
                  clear hS
                  go_simp
                  try with_reducible rfl
                try simp only [Act.put, List.getElem_toArray, List.getElem_cons_succ, List.getElem_cons_zero, List.setIfInBounds_toArray, List.set_cons_succ, List.set_cons_zero]
                apply takeH (i := 4) 502 rfl (by kernel_rfl) (by kernel_rfl) (by kernel_rfl) (fun _ _ _ h => h) rfl (by first | exact M.out | exact M.out.take 4)
                case' hy =>
                  refine Or.inl ⟨by first | rfl | (go_simp; done), ?_⟩
                  intro w hS
                  clear hS
                  go_simp
                  try with_reducible rfl
                try simp only [Act.put, List.getElem_toArray, List.getElem_cons_succ, List.getElem_cons_zero, List.setIfInBounds_toArray, List.set_cons_succ, List.set_cons_zero]
                apply takeH (i := 5) 503 rfl (by kernel_rfl) (by kernel_rfl) (by kernel_rfl) (fun _ _ _ h => h) rfl (by first | exact M.out | exact M.out.take 4)
                case' hy => exact ylds _ _ rfl rfl Try.underlying26 rfl rfl (fun w' hS => (show World.cell? w' ⟨xb, xo, none⟩ = some (.int .i16 x0.tree) from by have h := range_at Flock.vl (sl_rangeFlock (hS.slof 2 rfl) hpos) HX0.out 0 _ rfl; rw [Nat.zero_mul, Nat.add_zero] at h; exact h))
                try simp only [Act.put, List.getElem_toArray, List.getElem_cons_succ, List.getElem_cons_zero, List.setIfInBounds_toArray, List.set_cons_succ, List.set_cons_zero]
                apply takeH (i := 6) 504 rfl (by kernel_rfl) (by kernel_rfl) (by kernel_rfl) (fun _ _ _ h => h) rfl (by first | exact M.out | exact M.out.take 4)
                case' hy =>
                  refine Or.inl ⟨by first | rfl | (go_simp; done), ?_⟩
                  intro w hS
                  clear hS
                  go_simp
                  try with_reducible rfl
                try simp only [Act.put, List.getElem_toArray, List.getElem_cons_succ, List.getElem_cons_zero, List.setIfInBounds_toArray, List.set_cons_succ, List.set_cons_zero]
                refine any1H 7 (by kernel_rfl) rfl (fun K hK => ?_)
                go_wp2_with (first | ((with_reducible refine gate_dst (N := 498) rfl ?_); go_must (refine M.out.ev_ldw 0 _ _ rfl rfl rfl Try.underlying29 rfl (by first | exact sz29 | (rw [S1.out]; exact sz29) | (rw [S2.out]; exact sz29) | (rw [S3.out]; exact sz29)) rfl ?_)) | (go_at_call 26; go_must (refine (C.out.mv _ _ hcp hcap (fun h => by cases h) _ (M.out.slof 2 rfl)).mono ?_); rintro e w_ ⟨A57, c57, rfl, hc57, N_⟩; have m := M.out.join N_; clear N_; simp only [List.cons_append, List.nil_append, List.append_nil] at m; have M := Lib.hid m; clear m))
                refine onward_normal (hK _ _ ⟨(by first | exact M.out | exact M.out.take 4), ?_⟩)
                clear hK K
                try simp only [Act.put, List.getElem_toArray, List.getElem_cons_succ, List.getElem_cons_zero, List.setIfInBounds_toArray, List.set_cons_succ, List.set_cons_zero]
                apply takeH (i := 8) 497 rfl (by kernel_rfl) (by kernel_rfl) (by kernel_rfl) (fun _ _ _ h => h) rfl (by first | exact M.out | exact M.out.take 4)
                case' hy =>
                  refine Or.inl ⟨by first | rfl | (go_simp; done), ?_⟩
                  intro w hS
                  clear hS
                  go_simp
                  try with_reducible rfl
                try simp only [Act.put, List.getElem_toArray, List.getElem_cons_succ, List.getElem_cons_zero, List.setIfInBounds_toArray, List.set_cons_succ, List.set_cons_zero]
                apply takeH (i := 9) 506 rfl (by kernel_rfl) (by kernel_rfl) (by kernel_rfl) (fun _ _ _ h => h) rfl (by first | exact M.out | exact M.out.take 4)
                case' hy =>
                  refine Or.inl ⟨by first | rfl | (go_simp; done), ?_⟩
                  intro w hS
                  clear hS
                  go_simp
                  try with_reducible rfl
                try simp only [Act.put, List.getElem_toArray, List.getElem_cons_succ, List.getElem_cons_zero, List.setIfInBounds_toArray, List.set_cons_succ, List.set_cons_zero]
                apply takeH (i := 10) 507 rfl (by kernel_rfl) (by kernel_rfl) (by kernel_rfl) (fun _ _ _ h => h) rfl (by first | exact M.out | exact M.out.take 4)
                case' hy =>
                  refine Or.inl ⟨by first | rfl | (go_simp; done), ?_⟩
                  intro w hS
                  clear hS
                  go_simp
                  try with_reducible rfl
                try simp only [Act.put, List.getElem_toArray, List.getElem_cons_succ, List.getElem_cons_zero, List.setIfInBounds_toArray, List.set_cons_succ, List.set_cons_zero]
                apply takeH (i := 11) 57 rfl (by kernel_rfl) (by kernel_rfl) (by kernel_rfl) (fun _ _ _ h => h) rfl (by first | exact M.out | exact M.out.take 4)
                case' hy =>
                  refine Or.inl ⟨by first | rfl | (go_simp; done), ?_⟩
                  intro w hS
                  clear hS
                  go_simp
                  try with_reducible rfl
                try simp only [Act.put, List.getElem_toArray, List.getElem_cons_succ, List.getElem_cons_zero, List.setIfInBounds_toArray, List.set_cons_succ, List.set_cons_zero]
                apply takeH (i := 12) 58 rfl (by kernel_rfl) (by kernel_rfl) (by kernel_rfl) (fun _ _ _ h => h) rfl (by first | exact M.out | exact M.out.take 4)
                case' hy =>
                  refine Or.inl ⟨by first | rfl | (go_simp; done), ?_⟩
                  intro w hS
                  clear hS
                  go_simp
                  try with_reducible rfl
                try simp only [Act.put, List.getElem_toArray, List.getElem_cons_succ, List.getElem_cons_zero, List.setIfInBounds_toArray, List.set_cons_succ, List.set_cons_zero]
                refine wpAnyH_done (by kernel_rfl) ?_ _
                have x3 := range_at Flock.vl (sl_rangeFlock (M.out.slof 3 rfl) y2) HYX.out 1 _ rfl
                have y4 : (0 : Int) ≤ (xs.length : Int) := by omega
                have y5 : (xs.length : Int) < (ys.length : Int) := by omega
                have y6 : IntKind.i64.wrap ((xs.length : Int) + 1) = (xs.length : Int) + 1 := IntWalk.i64_in _ (by omega)
                go_wp2_with (first
                  | (go_at_call 27; go_must (refine (FlockSame_any _ _ _ _ xs _ (by omega) (M.out.slof 4 rfl) (M.out.slof 2 rfl)).mono ?_); rintro e w_ ⟨rfl, N_⟩; have m := M.out.join N_; clear N_; simp only [List.cons_append, List.nil_append, List.append_nil] at m; have M := Lib.hid m; clear m)
                  )
                go_ret
                exact ⟨rfl, M.out.take 0⟩
          · as_aux_lemma =>
            have hw := C.out.o2 hz
            have zf : (z == 0) = false := by rw [beq_eq_false_iff_ne]; exact hz
            subst hw
            go_wp2_with (first
              | ((with_reducible refine gate_dst (N := 354) rfl ?_); refine gate_want rfl ?_; go_must (refine M.out.ev_ldw 4 _ _ rfl rfl rfl Try.underlying29 rfl (by rw [S2.out]; exact sz29) rfl ?_))
              | ((with_reducible refine gate_dst (N := 355) rfl ?_); refine gate_want rfl ?_; go_must (refine M.out.ev_ldw 6 _ _ rfl rfl rfl Try.underlying29 rfl (by rw [S2.out]; exact sz29) rfl ?_))
              | (go_at_call 13; go_must (refine (VisitSame_any _ _ _ _ [] _ (by simp) (M.out.slof 3 rfl) (M.out.slof 5 rfl)).mono ?_); rintro e w_ ⟨rfl, N_⟩; have m := M.out.join N_; clear N_; simp only [List.cons_append, List.nil_append, List.append_nil] at m; have M := Lib.hid m; clear m)
              )
            refine region_anyH (fun w' => Mem w w' [.blk g5 29 F.cells, .blk g6 31 (ints .i16 fs), .row (.slice (some ⟨xb, xo, none⟩) xs.length cp) 48 6 xs.length (flat Flock.vals xs)]) (by kernel_rfl) ?_
            have m := M.out.drew
            clear M
            have M := Lib.hid m
            clear m
            apply takeH (i := 0) 377 rfl (by kernel_rfl) (by kernel_rfl) (by kernel_rfl) (fun _ _ _ h => h) rfl (by first | exact M.out | exact M.out.take 3)
            case' hy =>
              refine Or.inl ⟨by first | rfl | (go_simp; done), ?_⟩
              intro w hS
              clear hS
              go_simp
              try with_reducible rfl
            try simp only [Act.put, List.getElem_toArray, List.getElem_cons_succ, List.getElem_cons_zero, List.setIfInBounds_toArray, List.set_cons_succ, List.set_cons_zero]
            apply takeH (i := 1) 378 rfl (by kernel_rfl) (by kernel_rfl) (by kernel_rfl) (fun _ _ _ h => h) rfl (by first | exact M.out | exact M.out.take 3)
            case' hy =>
              refine Or.inl ⟨by first | rfl | (go_simp; done), ?_⟩
              intro w hS
              clear hS
              go_simp
              try with_reducible rfl
            try simp only [Act.put, List.getElem_toArray, List.getElem_cons_succ, List.getElem_cons_zero, List.setIfInBounds_toArray, List.set_cons_succ, List.set_cons_zero]
            apply takeH (i := 2) 379 rfl (by kernel_rfl) (by kernel_rfl) (by kernel_rfl) (fun _ _ _ h => h) rfl (by first | exact M.out | exact M.out.take 3)
            case' hy =>
              refine Or.inl ⟨by first | rfl | (go_simp; done), ?_⟩
              intro w hS
              clear hS
              go_simp
              try with_reducible rfl
            try simp only [Act.put, List.getElem_toArray, List.getElem_cons_succ, List.getElem_cons_zero, List.setIfInBounds_toArray, List.set_cons_succ, List.set_cons_zero]
            refine wpAnyH_take (i := 3) (v := undef) rfl (by kernel_rfl) (by kernel_rfl) (by kernel_rfl) (fun _ _ _ h => h) (Or.inr ⟨by kernel_rfl, rfl⟩) (by first | exact M.out | exact M.out.take 3) ?_
            try simp only [Act.put, List.getElem_toArray, List.getElem_cons_succ, List.getElem_cons_zero, List.setIfInBounds_toArray, List.set_cons_succ, List.set_cons_zero]
            refine wpAnyH_take (i := 4) (v := undef) rfl (by kernel_rfl) (by kernel_rfl) (by kernel_rfl) (fun _ _ _ h => h) (Or.inr ⟨by kernel_rfl, rfl⟩) (by first | exact M.out | exact M.out.take 3) ?_
            try simp only [Act.put, List.getElem_toArray, List.getElem_cons_succ, List.getElem_cons_zero, List.setIfInBounds_toArray, List.set_cons_succ, List.set_cons_zero]
            refine wpAnyH_take (i := 5) (v := undef) rfl (by kernel_rfl) (by kernel_rfl) (by kernel_rfl) (fun _ _ _ h => h) (Or.inr ⟨by kernel_rfl, rfl⟩) (by first | exact M.out | exact M.out.take 3) ?_
            try simp only [Act.put, List.getElem_toArray, List.getElem_cons_succ, List.getElem_cons_zero, List.setIfInBounds_toArray, List.set_cons_succ, List.set_cons_zero]
            refine wpAnyH_take (i := 6) (v := undef) rfl (by kernel_rfl) (by kernel_rfl) (by kernel_rfl) (fun _ _ _ h => h) (Or.inr ⟨by kernel_rfl, rfl⟩) (by first | exact M.out | exact M.out.take 3) ?_
            try simp only [Act.put, List.getElem_toArray, List.getElem_cons_succ, List.getElem_cons_zero, List.setIfInBounds_toArray, List.set_cons_succ, List.set_cons_zero]
            refine wpAnyH_take (i := 7) (v := undef) rfl (by kernel_rfl) (by kernel_rfl) (by kernel_rfl) (fun _ _ _ h => h) (Or.inr ⟨by kernel_rfl, rfl⟩) (by first | exact M.out | exact M.out.take 3) ?_
            try simp only [Act.put, List.getElem_toArray, List.getElem_cons_succ, List.getElem_cons_zero, List.setIfInBounds_toArray, List.set_cons_succ, List.set_cons_zero]
            refine wpAnyH_take (i := 8) (v := undef) rfl (by kernel_rfl) (by kernel_rfl) (by kernel_rfl) (fun _ _ _ h => h) (Or.inr ⟨by kernel_rfl, rfl⟩) (by first | exact M.out | exact M.out.take 3) ?_
            try simp only [Act.put, List.getElem_toArray, List.getElem_cons_succ, List.getElem_cons_zero, List.setIfInBounds_toArray, List.set_cons_succ, List.set_cons_zero]
            refine wpAnyH_take (i := 9) (v := undef) rfl (by kernel_rfl) (by kernel_rfl) (by kernel_rfl) (fun _ _ _ h => h) (Or.inr ⟨by kernel_rfl, rfl⟩) (by first | exact M.out | exact M.out.take 3) ?_
            try simp only [Act.put, List.getElem_toArray, List.getElem_cons_succ, List.getElem_cons_zero, List.setIfInBounds_toArray, List.set_cons_succ, List.set_cons_zero]
            refine wpAnyH_take (i := 10) (v := undef) rfl (by kernel_rfl) (by kernel_rfl) (by kernel_rfl) (fun _ _ _ h => h) (Or.inr ⟨by kernel_rfl, rfl⟩) (by first | exact M.out | exact M.out.take 3) ?_
            try simp only [Act.put, List.getElem_toArray, List.getElem_cons_succ, List.getElem_cons_zero, List.setIfInBounds_toArray, List.set_cons_succ, List.set_cons_zero]
            refine wpAnyH_take (i := 11) (v := undef) rfl (by kernel_rfl) (by kernel_rfl) (by kernel_rfl) (fun _ _ _ h => h) (Or.inr ⟨by kernel_rfl, rfl⟩) (by first | exact M.out | exact M.out.take 3) ?_
            try simp only [Act.put, List.getElem_toArray, List.getElem_cons_succ, List.getElem_cons_zero, List.setIfInBounds_toArray, List.set_cons_succ, List.set_cons_zero]
            refine wpAnyH_take (i := 12) (v := undef) rfl (by kernel_rfl) (by kernel_rfl) (by kernel_rfl) (fun _ _ _ h => h) (Or.inr ⟨by kernel_rfl, rfl⟩) (by first | exact M.out | exact M.out.take 3) ?_
            try simp only [Act.put, List.getElem_toArray, List.getElem_cons_succ, List.getElem_cons_zero, List.setIfInBounds_toArray, List.set_cons_succ, List.set_cons_zero]
            refine wpAnyH_take (i := 13) (v := undef) rfl (by kernel_rfl) (by kernel_rfl) (by kernel_rfl) (fun _ _ _ h => h) (Or.inr ⟨by kernel_rfl, rfl⟩) (by first | exact M.out | exact M.out.take 3) ?_
            try simp only [Act.put, List.getElem_toArray, List.getElem_cons_succ, List.getElem_cons_zero, List.setIfInBounds_toArray, List.set_cons_succ, List.set_cons_zero]
            refine wpAnyH_take (i := 14) (v := undef) rfl (by kernel_rfl) (by kernel_rfl) (by kernel_rfl) (fun _ _ _ h => h) (Or.inr ⟨by kernel_rfl, rfl⟩) (by first | exact M.out | exact M.out.take 3) ?_
            try simp only [Act.put, List.getElem_toArray, List.getElem_cons_succ, List.getElem_cons_zero, List.setIfInBounds_toArray, List.set_cons_succ, List.set_cons_zero]
            refine wpAnyH_take (i := 15) (v := undef) rfl (by kernel_rfl) (by kernel_rfl) (by kernel_rfl) (fun _ _ _ h => h) (Or.inr ⟨by kernel_rfl, rfl⟩) (by first | exact M.out | exact M.out.take 3) ?_
            try simp only [Act.put, List.getElem_toArray, List.getElem_cons_succ, List.getElem_cons_zero, List.setIfInBounds_toArray, List.set_cons_succ, List.set_cons_zero]
            refine wpAnyH_take (i := 16) (v := undef) rfl (by kernel_rfl) (by kernel_rfl) (by kernel_rfl) (fun _ _ _ h => h) (Or.inr ⟨by kernel_rfl, rfl⟩) (by first | exact M.out | exact M.out.take 3) ?_
            try simp only [Act.put, List.getElem_toArray, List.getElem_cons_succ, List.getElem_cons_zero, List.setIfInBounds_toArray, List.set_cons_succ, List.set_cons_zero]
            refine wpAnyH_take (i := 17) (v := undef) rfl (by kernel_rfl) (by kernel_rfl) (by kernel_rfl) (fun _ _ _ h => h) (Or.inr ⟨by kernel_rfl, rfl⟩) (by first | exact M.out | exact M.out.take 3) ?_
            try simp only [Act.put, List.getElem_toArray, List.getElem_cons_succ, List.getElem_cons_zero, List.setIfInBounds_toArray, List.set_cons_succ, List.set_cons_zero]
            refine wpAnyH_take (i := 18) (v := undef) rfl (by kernel_rfl) (by kernel_rfl) (by kernel_rfl) (fun _ _ _ h => h) (Or.inr ⟨by kernel_rfl, rfl⟩) (by first | exact M.out | exact M.out.take 3) ?_
            try simp only [Act.put, List.getElem_toArray, List.getElem_cons_succ, List.getElem_cons_zero, List.setIfInBounds_toArray, List.set_cons_succ, List.set_cons_zero]
            refine wpAnyH_take (i := 19) (v := undef) rfl (by kernel_rfl) (by kernel_rfl) (by kernel_rfl) (fun _ _ _ h => h) (Or.inr ⟨by kernel_rfl, rfl⟩) (by first | exact M.out | exact M.out.take 3) ?_
            try simp only [Act.put, List.getElem_toArray, List.getElem_cons_succ, List.getElem_cons_zero, List.setIfInBounds_toArray, List.set_cons_succ, List.set_cons_zero]
            refine wpAnyH_take (i := 20) (v := undef) rfl (by kernel_rfl) (by kernel_rfl) (by kernel_rfl) (fun _ _ _ h => h) (Or.inr ⟨by kernel_rfl, rfl⟩) (by first | exact M.out | exact M.out.take 3) ?_
            try simp only [Act.put, List.getElem_toArray, List.getElem_cons_succ, List.getElem_cons_zero, List.setIfInBounds_toArray, List.set_cons_succ, List.set_cons_zero]
            refine wpAnyH_take (i := 21) (v := undef) rfl (by kernel_rfl) (by kernel_rfl) (by kernel_rfl) (fun _ _ _ h => h) (Or.inr ⟨by kernel_rfl, rfl⟩) (by first | exact M.out | exact M.out.take 3) ?_
            try simp only [Act.put, List.getElem_toArray, List.getElem_cons_succ, List.getElem_cons_zero, List.setIfInBounds_toArray, List.set_cons_succ, List.set_cons_zero]
            refine wpAnyH_take (i := 22) (v := undef) rfl (by kernel_rfl) (by kernel_rfl) (by kernel_rfl) (fun _ _ _ h => h) (Or.inr ⟨by kernel_rfl, rfl⟩) (by first | exact M.out | exact M.out.take 3) ?_
            try simp only [Act.put, List.getElem_toArray, List.getElem_cons_succ, List.getElem_cons_zero, List.setIfInBounds_toArray, List.set_cons_succ, List.set_cons_zero]
            refine wpAnyH_take (i := 23) (v := undef) rfl (by kernel_rfl) (by kernel_rfl) (by kernel_rfl) (fun _ _ _ h => h) (Or.inr ⟨by kernel_rfl, rfl⟩) (by first | exact M.out | exact M.out.take 3) ?_
            try simp only [Act.put, List.getElem_toArray, List.getElem_cons_succ, List.getElem_cons_zero, List.setIfInBounds_toArray, List.set_cons_succ, List.set_cons_zero]
            refine wpAnyH_take (i := 24) (v := undef) rfl (by kernel_rfl) (by kernel_rfl) (by kernel_rfl) (fun _ _ _ h => h) (Or.inr ⟨by kernel_rfl, rfl⟩) (by first | exact M.out | exact M.out.take 3) ?_
            try simp only [Act.put, List.getElem_toArray, List.getElem_cons_succ, List.getElem_cons_zero, List.setIfInBounds_toArray, List.set_cons_succ, List.set_cons_zero]
            refine wpAnyH_take (i := 25) (v := undef) rfl (by kernel_rfl) (by kernel_rfl) (by kernel_rfl) (fun _ _ _ h => h) (Or.inr ⟨by kernel_rfl, rfl⟩) (by first | exact M.out | exact M.out.take 3) ?_
            try simp only [Act.put, List.getElem_toArray, List.getElem_cons_succ, List.getElem_cons_zero, List.setIfInBounds_toArray, List.set_cons_succ, List.set_cons_zero]
            refine wpAnyH_take (i := 26) (v := undef) rfl (by kernel_rfl) (by kernel_rfl) (by kernel_rfl) (fun _ _ _ h => h) (Or.inr ⟨by kernel_rfl, rfl⟩) (by first | exact M.out | exact M.out.take 3) ?_
            try simp only [Act.put, List.getElem_toArray, List.getElem_cons_succ, List.getElem_cons_zero, List.setIfInBounds_toArray, List.set_cons_succ, List.set_cons_zero]
            refine wpAnyH_take (i := 27) (v := undef) rfl (by kernel_rfl) (by kernel_rfl) (by kernel_rfl) (fun _ _ _ h => h) (Or.inr ⟨by kernel_rfl, rfl⟩) (by first | exact M.out | exact M.out.take 3) ?_
            try simp only [Act.put, List.getElem_toArray, List.getElem_cons_succ, List.getElem_cons_zero, List.setIfInBounds_toArray, List.set_cons_succ, List.set_cons_zero]
            refine wpAnyH_take (i := 28) (v := undef) rfl (by kernel_rfl) (by kernel_rfl) (by kernel_rfl) (fun _ _ _ h => h) (Or.inr ⟨by kernel_rfl, rfl⟩) (by first | exact M.out | exact M.out.take 3) ?_
            try simp only [Act.put, List.getElem_toArray, List.getElem_cons_succ, List.getElem_cons_zero, List.setIfInBounds_toArray, List.set_cons_succ, List.set_cons_zero]
            refine wpAnyH_take (i := 29) (v := undef) rfl (by kernel_rfl) (by kernel_rfl) (by kernel_rfl) (fun _ _ _ h => h) (Or.inr ⟨by kernel_rfl, rfl⟩) (by first | exact M.out | exact M.out.take 3) ?_
            try simp only [Act.put, List.getElem_toArray, List.getElem_cons_succ, List.getElem_cons_zero, List.setIfInBounds_toArray, List.set_cons_succ, List.set_cons_zero]
            apply takeH (i := 30) 407 rfl (by kernel_rfl) (by kernel_rfl) (by kernel_rfl) (fun _ _ _ h => h) rfl (by first | exact M.out | exact M.out.take 3)
            case' hy =>
              refine Or.inl ⟨by first | rfl | (go_simp; done), ?_⟩
              intro w hS
              clear hS
              go_simp
              try with_reducible rfl
            try simp only [Act.put, List.getElem_toArray, List.getElem_cons_succ, List.getElem_cons_zero, List.setIfInBounds_toArray, List.set_cons_succ, List.set_cons_zero]
            refine wpAnyH_done (by kernel_rfl) ?_ _
            have mm := M.out.only [0, 1, 2] (K := [_, _, _]) rfl (by decide)
            clear M heq S2 S3 SO
            have M := Lib.hid mm
            clear mm
            have S2 := Lib.hid (Fld.size C.out.dl)
            have z3 : ((L.length : Int) != 3) = false := by have := C.out.l3; simp; omega
            have l3 : 3 ≤ L.length := by have := C.out.l3; omega
            go_wp2_with (first
              | ((with_reducible refine gate_dst (N := 409) rfl ?_); go_must (refine M.out.ev_ldw 0 _ _ rfl rfl rfl Try.underlying29 rfl (by rw [S1.out]; exact sz29) rfl ?_))
              | ((with_reducible refine gate_dst (N := 410) rfl ?_); go_must (refine M.out.ev_ldw 1 _ _ rfl rfl rfl Try.underlying31 rfl (by rw [SF.out]; exact sz31) rfl ?_))
              | (go_at_call 21; go_must (refine (C.out.fd _ _ _ (M.out.slof 2 rfl)).mono ?_); rintro e w_ ⟨A39, c39, rfl, hc39, N_⟩; have m := M.out.join N_; clear N_; simp only [List.cons_append, List.nil_append, List.append_nil] at m; have M := Lib.hid m; clear m)
              | ((with_reducible refine gate_dst (N := 38) rfl ?_); go_must (refine M.out.ev_new rfl (by first | (go_simp; done) | (go_simp; rfl)) ?_); intro g38 w38 m; simp only [List.cons_append, List.nil_append] at m; have M := Lib.hid m; clear m)
              | ((with_reducible refine gate_store (x := .tmp 38) rfl ?_); go_must (refine M.out.ev_stw 4 _ _ _ rfl rfl rfl rfl _ rfl (by rw [S2.out]; exact szZ) (by rw [S2.out]; exact sz29) (Fld.one _) rfl ?_); intro wn m; simp only [List.set_cons_zero, List.set_cons_succ] at m; have M := Lib.hid m; clear m)
              | ((with_reducible refine gate_dst (N := 416) rfl ?_); go_must (refine M.out.ev_ldw 0 _ _ rfl rfl rfl Try.underlying29 rfl (by rw [S1.out]; exact sz29) rfl ?_))
              | ((with_reducible refine gate_dst (N := 41) rfl ?_); go_must (refine M.out.ev_new rfl (by first | (go_simp; done) | (go_simp; rfl)) ?_); intro g41 w41 m; simp only [List.cons_append, List.nil_append] at m; have M := Lib.hid m; clear m)
              | ((with_reducible refine gate_store (x := .tmp 41) rfl ?_); go_must (refine M.out.ev_stw 5 _ _ _ rfl rfl rfl rfl _ rfl (by rw [S1.out]; exact szZ) (by rw [S1.out]; exact sz29) (Fld.one _) rfl ?_); intro wn m; simp only [List.set_cons_zero, List.set_cons_succ] at m; have M := Lib.hid m; clear m)
              )
            clear z3
            go_loopw [42] (fun v wr => ∃ d : Nat, d ≤ 3 ∧ v = .int .i64 d ∧ Mem w wr [.blk g5 29 F.cells, .blk g6 31 (ints .i16 fs), .row (.slice (some ⟨xb, xo, none⟩) xs.length cp) 48 6 xs.length (flat Flock.vals xs), .row (.slice A39 L.length c39) 2 1 L.length (flat oneI L), .blk g38 29 D.cells, .blk g41 29 (K d).cells])
              (fun v _ => 3 - (intOf v).toNat)
            case atStart => exact ⟨0, by omega, rfl, by rw [C.out.k0]; exact M.out⟩
            case round =>
              clear M
              obtain ⟨d, hd, rfl, m⟩ := hrel
              have M := Lib.hid m
              clear m
              by_cases hlt : d < 3
              · as_aux_lemma =>
                obtain ⟨ok1, v1, ok2, v2, hy, us, hsa⟩ := C.out.day d hlt
                have HSA := Lib.hid hsa
                have OK1 := Lib.hid ok1
                have OK2 := Lib.hid ok2
                have HV1 := Lib.hid v1
                have HV2 := Lib.hid v2
                have HLD := Lib.hid (gi_atF (ds := L) (i := d) (by omega))
                obtain ⟨lb, lo, rfl, _⟩ := (M.out.slof 3 rfl).2 (by omega)
                have q1 := seedSum_b ok1 100
                have q2 := seedSum_b ok2 100
                obtain ⟨KA, hKA⟩ : ∃ KA, KA = K d := ⟨_, rfl⟩
                obtain ⟨KB, hKB⟩ : ∃ KB, KB = K (d + 1) := ⟨_, rfl⟩
                rw [← hKA] at M HSA OK1 HV1 hy q1
                rw [← hKB] at HSA OK2 HV2 hy q2
                obtain ⟨y, hyy⟩ : ∃ y, y = gi L d := ⟨_, rfl⟩
                rw [← hyy] at HLD hy
                have HKB := Lib.hid hKB
                have S3 := Lib.hid (Fld.size OK1.out.toLen)
                have S4 := Lib.hid (Fld.size OK2.out.toLen)
                have w7 : IntKind.i64.wrap (seedSum KA 100 - seedSum KB 100) = y := by rw [hy]; exact IntWalk.i64_in _ (by omega)
                have i0 : (0 : Int) ≤ (d : Int) := by omega
                have i1 : (d : Int) < 3 := by omega
                have i3 : (d : Int) < (L.length : Int) := by omega
                clear hsa ok1 v1 ok2 v2 hKA hKB hyy hy q1 q2
                go_wp2_with (first
                  | ((with_reducible refine gate_dst (N := 429) rfl ?_); go_must (refine M.out.ev_ldw 5 _ _ rfl rfl rfl Try.underlying29 rfl (by rw [S3.out]; exact sz29) rfl ?_))
                  | ((with_reducible refine gate_dst (N := 430) rfl ?_); go_must (refine M.out.ev_ldw 1 _ _ rfl rfl rfl Try.underlying31 rfl (by rw [SF.out]; exact sz31) rfl ?_))
                  | (go_at_call 9; go_must (refine (HSA.out _ _ _ (M.out.slof 2 rfl)).mono ?_); rintro e w_ ⟨A44, c44, rfl, hc44, N_⟩; have m := M.out.join N_; clear N_; simp only [List.cons_append, List.nil_append, List.append_nil] at m; have M := Lib.hid m; clear m)
                  | ((with_reducible refine gate_dst (N := 43) rfl ?_); go_must (refine M.out.ev_new rfl (by first | (go_simp; done) | (go_simp; rfl)) ?_); intro g43 w43 m; simp only [List.cons_append, List.nil_append] at m; have M := Lib.hid m; clear m)
                  | ((with_reducible refine gate_store (x := .tmp 43) rfl ?_); go_must (refine M.out.ev_stw 7 _ _ _ rfl rfl rfl rfl _ rfl (by rw [S4.out]; exact szZ) (by rw [S4.out]; exact sz29) (Fld.one _) rfl ?_); intro wn m; simp only [List.set_cons_zero, List.set_cons_succ] at m; have M := Lib.hid m; clear m)
                  | ((with_reducible refine gate_dst (N := 437) rfl ?_); go_must (refine M.out.ev_ldw 5 _ _ rfl rfl rfl Try.underlying29 rfl (by rw [S3.out]; exact sz29) rfl ?_))
                  | ((with_reducible refine gate_dst (N := 442) rfl ?_); go_must (refine M.out.ev_ldw 7 _ _ rfl rfl rfl Try.underlying29 rfl (by rw [S4.out]; exact sz29) rfl ?_))
                  | (go_at_call 22; go_must (first | (refine Calls.mono (calls_args (by with_reducible rfl) (spec_SeedsIn_any KA OK1.out HV1.out _)) ?_) | (refine Calls.mono (calls_args (by with_reducible rfl) (spec_SeedsIn_any KB OK2.out HV2.out _)) ?_)); rintro e w_ ⟨rfl, N_⟩; have m := M.out.join N_; clear N_; simp only [List.cons_append, List.nil_append, List.append_nil] at m; have M := Lib.hid m; clear m; have x1 := (M.out.slof 3 rfl).atF HLD.out)
                  | ((with_reducible refine gate_dst (N := 466) rfl ?_); go_must (refine M.out.ev_ldw 7 _ _ rfl rfl rfl Try.underlying29 rfl (by rw [S4.out]; exact sz29) rfl ?_))
                  | ((with_reducible refine gate_store (x := .tmp 41) rfl ?_); go_must (refine M.out.ev_stw 5 _ _ _ rfl rfl rfl rfl _ rfl (by rw [S4.out, S3.out]) (by rw [S4.out]; exact sz29) (Fld.one _) rfl ?_); intro wn m; simp only [List.set_cons_zero, List.set_cons_succ] at m; have M := Lib.hid m; clear m)
                  )
                exact ⟨⟨d + 1, by omega, by go_num, by rw [← HKB.out]; exact M.out.take 6⟩, by simp [intOf]; try omega⟩
              · as_aux_lemma =>
                obtain rfl : d = 3 := by omega
                rw [C.out.k3] at M
                have heq := fun w => neqFld D C.out.dl w
                have HB0 := Lib.hid (C.out.ho 0 _ C.out.xh).2.1
                have hb5 := HB0.out
                have w8 : IntKind.i64.wrap x0.birds = x0.birds := IntWalk.i64_in _ (by omega)
                have w9 : IntKind.i64.wrap (x0.birds + 1) = x0.birds + 1 := IntWalk.i64_in _ (by omega)
                have i4 : (0 : Int) < (xs.length : Int) := by omega
                have hcap := M.out.row_cap 2 rfl
                have X1 := Lib.hid (fun (w' : World) (h : Sl w' 6 (some ⟨xb, xo, none⟩) xs.length (flat Flock.vals xs)) => show w'.cell? ⟨xb, xo + 1, none⟩ = some (.int .i16 x0.birds) from by
                  have h := range_at Flock.vl (sl_rangeFlock h hpos) HX0.out 1 _ rfl
                  rw [Nat.zero_mul, Nat.add_zero] at h
                  exact h)
                clear hlt
                go_wp2_with (first
                  | ((with_reducible refine gate_dst (N := 467) rfl ?_); go_must (refine M.out.ev_ldw 4 _ _ rfl rfl rfl Try.underlying29 rfl (by rw [S2.out]; exact sz29) rfl ?_))
                  | ((with_reducible refine gate_dst (N := 468) rfl ?_); go_must (refine M.out.ev_ldw 5 _ _ rfl rfl rfl Try.underlying29 rfl (by rw [S2.out]; exact sz29) rfl ?_))
                  | ((with_reducible refine gate_dst (N := 471) rfl ?_); go_must (refine M.out.ev_ldw 0 _ _ rfl rfl rfl Try.underlying29 rfl (by rw [S1.out]; exact sz29) rfl ?_))
                  | (go_at_call 23; go_must (first | (refine Calls.mono (calls_args (by with_reducible rfl) (C.out.bi _ _ _ (M.out.slof 2 rfl))) ?_; rintro e w_ ⟨rfl, N_⟩; have m := M.out.join N_; clear N_; simp only [List.cons_append, List.nil_append, List.append_nil] at m; have M := Lib.hid m; clear m; have x1 := X1.out _ (M.out.slof 2 rfl)) | (refine (HBY.out _ _ _ (M.out.slof 6 rfl)).mono ?_; rintro e w_ ⟨rfl, N_⟩; have m := M.out.join N_; clear N_; simp only [List.cons_append, List.nil_append, List.append_nil] at m; have M := Lib.hid m; clear m)))
                  | (go_at_call 24; go_must (refine (a2At_any B nb cs YC.out (x0.birds + 1) (by omega) _ (M.out.sl HT.out)).mono ?_); rintro e w_ ⟨r, rfl, r0, r1, rfl⟩; obtain ⟨ys, hyl, hyx, hsp, hby⟩ := C.out.sp r r0 (by omega); have HYX := Lib.hid hyx; have HSP := Lib.hid hsp; have HBY := Lib.hid hby; have y1 : ys.length ≤ xs.length + 1 := (by omega); have y2 : xs.length + 1 ≤ ys.length := (by omega); have y3 : ((ys.length : Int) == (xs.length : Int) + 1) = true := (by rw [beq_iff_eq]; omega); have w10 : IntKind.i64.wrap r = r := IntWalk.i64_in _ (by omega); clear hyl hyx hsp hby)
                  | ((with_reducible refine gate_dst (N := 485) rfl ?_); go_must (refine M.out.ev_ldw 0 _ _ rfl rfl rfl Try.underlying29 rfl (by rw [S1.out]; exact sz29) rfl ?_))
                  | (go_at_call 25; go_must (refine (HSP.out _ _ hcp hcap (fun h => by cases h) _ (M.out.slof 2 rfl)).mono ?_); rintro e w_ ⟨A53, c53, rfl, hc53, N_⟩; have m := M.out.join N_; clear N_; simp only [List.cons_append, List.nil_append, List.append_nil] at m; have M := Lib.hid m; clear m)
                  | ((with_reducible refine gate_dst (N := 492) rfl ?_); go_must (refine M.out.ev_ldw 0 _ _ rfl rfl rfl Try.underlying29 rfl (by rw [S1.out]; exact sz29) rfl ?_))
                  )
                have mm := M.out.only [0, 1, 2, 6] (K := [_, _, _, _]) rfl (by decide)
                clear M heq
                have M := Lib.hid mm
                clear mm
                obtain ⟨yb, yo, rfl, _⟩ := (M.out.slof 3 rfl).2 (by omega)
                have TB := Lib.hid (Flock.plain_iff.1 (fine_plain (C.out.fine0))).1
                have htb := TB.out
                have w11 : IntKind.i64.wrap x0.tree = x0.tree := IntWalk.i64_in _ (by omega)
                refine region_anyH (fun w' => Mem w w' [.blk g5 29 F.cells, .blk g6 31 (ints .i16 fs), .row (.slice (some ⟨xb, xo, none⟩) xs.length cp) 48 6 xs.length (flat Flock.vals xs), .row (.slice (some ⟨yb, yo, none⟩) ys.length c53) 48 6 ys.length (flat Flock.vals ys)]) (by kernel_rfl) ?_
                have m := M.out.drew
                clear M
                have M := Lib.hid m
                clear m
                apply takeH (i := 0) 498 rfl (by kernel_rfl) (by kernel_rfl) (by kernel_rfl) (fun _ _ _ h => h) rfl (by first | exact M.out | exact M.out.take 4)
                case' hy => exact yldw _ _ rfl rfl Try.underlying29 rfl (by first | exact sz29 | (rw [S1.out]; exact sz29) | (rw [S2.out]; exact sz29) | (rw [S3.out]; exact sz29)) rfl (fun w' hS => hS.blk 0 rfl)
                try simp only [Act.put, List.getElem_toArray, List.getElem_cons_succ, List.getElem_cons_zero, List.setIfInBounds_toArray, List.set_cons_succ, List.set_cons_zero]
                apply takeH (i := 1) 499 rfl (by kernel_rfl) (by kernel_rfl) (by kernel_rfl) (fun _ _ _ h => h) rfl (by first | exact M.out | exact M.out.take 4)
                case' hy =>
                  refine Or.inl ⟨by first | rfl | (go_simp; done), ?_⟩
                  intro w hS
                  clear hS
                  go_simp
                  try with_reducible rfl
                try simp only [Act.put, List.getElem_toArray, List.getElem_cons_succ, List.getElem_cons_zero, List.setIfInBounds_toArray, List.set_cons_succ, List.set_cons_zero]
                apply takeH (i := 2) 500 rfl (by kernel_rfl) (by kernel_rfl) (by kernel_rfl) (fun _ _ _ h => h) rfl (by first | exact M.out | exact M.out.take 4)
                case' hy =>
                  refine Or.inl ⟨by first | rfl | (go_simp; done), ?_⟩
                  intro w hS
                  clear hS
                  go_simp
                  try with_reducible rfl
                try simp only [Act.put, List.getElem_toArray, List.getElem_cons_succ, List.getElem_cons_zero, List.setIfInBounds_toArray, List.set_cons_succ, List.set_cons_zero]
                apply takeH (i := 3) 501 rfl (by kernel_rfl) (by kernel_rfl) (by kernel_rfl) (fun _ _ _ h => h) rfl (by first | exact M.out | exact M.out.take 4)
                case' hy =>
                  refine Or.inl ⟨by first | rfl | (go_simp; done), ?_⟩
                  intro w hS
                  clear hS
                  go_simp
                  try with_reducible rfl
                try simp only [Act.put, List.getElem_toArray, List.getElem_cons_succ, List.getElem_cons_zero, List.setIfInBounds_toArray, List.set_cons_succ, List.set_cons_zero]
                apply takeH (i := 4) 502 rfl (by kernel_rfl) (by kernel_rfl) (by kernel_rfl) (fun _ _ _ h => h) rfl (by first | exact M.out | exact M.out.take 4)
                case' hy =>
                  refine Or.inl ⟨by first | rfl | (go_simp; done), ?_⟩
                  intro w hS
                  clear hS
                  go_simp
                  try with_reducible rfl
                try simp only [Act.put, List.getElem_toArray, List.getElem_cons_succ, List.getElem_cons_zero, List.setIfInBounds_toArray, List.set_cons_succ, List.set_cons_zero]
                apply takeH (i := 5) 503 rfl (by kernel_rfl) (by kernel_rfl) (by kernel_rfl) (fun _ _ _ h => h) rfl (by first | exact M.out | exact M.out.take 4)
                case' hy => exact ylds _ _ rfl rfl Try.underlying26 rfl rfl (fun w' hS => (show World.cell? w' ⟨xb, xo, none⟩ = some (.int .i16 x0.tree) from by have h := range_at Flock.vl (sl_rangeFlock (hS.slof 2 rfl) hpos) HX0.out 0 _ rfl; rw [Nat.zero_mul, Nat.add_zero] at h; exact h))
                try simp only [Act.put, List.getElem_toArray, List.getElem_cons_succ, List.getElem_cons_zero, List.setIfInBounds_toArray, List.set_cons_succ, List.set_cons_zero]
                apply takeH (i := 6) 504 rfl (by kernel_rfl) (by kernel_rfl) (by kernel_rfl) (fun _ _ _ h => h) rfl (by first | exact M.out | exact M.out.take 4)
                case' hy =>
                  refine Or.inl ⟨by first | rfl | (go_simp; done), ?_⟩
                  intro w hS
                  clear hS
                  go_simp
                  try with_reducible rfl
                try simp only [Act.put, List.getElem_toArray, List.getElem_cons_succ, List.getElem_cons_zero, List.setIfInBounds_toArray, List.set_cons_succ, List.set_cons_zero]
                refine any1H 7 (by kernel_rfl) rfl (fun K hK => ?_)
                go_wp2_with (first | ((with_reducible refine gate_dst (N := 498) rfl ?_); go_must (refine M.out.ev_ldw 0 _ _ rfl rfl rfl Try.underlying29 rfl (by first | exact sz29 | (rw [S1.out]; exact sz29) | (rw [S2.out]; exact sz29) | (rw [S3.out]; exact sz29)) rfl ?_)) | (go_at_call 26; go_must (refine (C.out.mv _ _ hcp hcap (fun h => by cases h) _ (M.out.slof 2 rfl)).mono ?_); rintro e w_ ⟨A57, c57, rfl, hc57, N_⟩; have m := M.out.join N_; clear N_; simp only [List.cons_append, List.nil_append, List.append_nil] at m; have M := Lib.hid m; clear m))
                refine onward_normal (hK _ _ ⟨(by first | exact M.out | exact M.out.take 4), ?_⟩)
                clear hK K
                try simp only [Act.put, List.getElem_toArray, List.getElem_cons_succ, List.getElem_cons_zero, List.setIfInBounds_toArray, List.set_cons_succ, List.set_cons_zero]
                apply takeH (i := 8) 497 rfl (by kernel_rfl) (by kernel_rfl) (by kernel_rfl) (fun _ _ _ h => h) rfl (by first | exact M.out | exact M.out.take 4)
                case' hy =>
                  refine Or.inl ⟨by first | rfl | (go_simp; done), ?_⟩
                  intro w hS
                  clear hS
                  go_simp
                  try with_reducible rfl
                try simp only [Act.put, List.getElem_toArray, List.getElem_cons_succ, List.getElem_cons_zero, List.setIfInBounds_toArray, List.set_cons_succ, List.set_cons_zero]
                apply takeH (i := 9) 506 rfl (by kernel_rfl) (by kernel_rfl) (by kernel_rfl) (fun _ _ _ h => h) rfl (by first | exact M.out | exact M.out.take 4)
                case' hy =>
                  refine Or.inl ⟨by first | rfl | (go_simp; done), ?_⟩
                  intro w hS
                  clear hS
                  go_simp
                  try with_reducible rfl
                try simp only [Act.put, List.getElem_toArray, List.getElem_cons_succ, List.getElem_cons_zero, List.setIfInBounds_toArray, List.set_cons_succ, List.set_cons_zero]
                apply takeH (i := 10) 507 rfl (by kernel_rfl) (by kernel_rfl) (by kernel_rfl) (fun _ _ _ h => h) rfl (by first | exact M.out | exact M.out.take 4)
                case' hy =>
                  refine Or.inl ⟨by first | rfl | (go_simp; done), ?_⟩
                  intro w hS
                  clear hS
                  go_simp
                  try with_reducible rfl
                try simp only [Act.put, List.getElem_toArray, List.getElem_cons_succ, List.getElem_cons_zero, List.setIfInBounds_toArray, List.set_cons_succ, List.set_cons_zero]
                apply takeH (i := 11) 57 rfl (by kernel_rfl) (by kernel_rfl) (by kernel_rfl) (fun _ _ _ h => h) rfl (by first | exact M.out | exact M.out.take 4)
                case' hy =>
                  refine Or.inl ⟨by first | rfl | (go_simp; done), ?_⟩
                  intro w hS
                  clear hS
                  go_simp
                  try with_reducible rfl
                try simp only [Act.put, List.getElem_toArray, List.getElem_cons_succ, List.getElem_cons_zero, List.setIfInBounds_toArray, List.set_cons_succ, List.set_cons_zero]
                apply takeH (i := 12) 58 rfl (by kernel_rfl) (by kernel_rfl) (by kernel_rfl) (fun _ _ _ h => h) rfl (by first | exact M.out | exact M.out.take 4)
                case' hy =>
                  refine Or.inl ⟨by first | rfl | (go_simp; done), ?_⟩
                  intro w hS
                  clear hS
                  go_simp
                  try with_reducible rfl
                try simp only [Act.put, List.getElem_toArray, List.getElem_cons_succ, List.getElem_cons_zero, List.setIfInBounds_toArray, List.set_cons_succ, List.set_cons_zero]
                refine wpAnyH_done (by kernel_rfl) ?_ _
                have x3 := range_at Flock.vl (sl_rangeFlock (M.out.slof 3 rfl) y2) HYX.out 1 _ rfl
                have y4 : (0 : Int) ≤ (xs.length : Int) := by omega
                have y5 : (xs.length : Int) < (ys.length : Int) := by omega
                have y6 : IntKind.i64.wrap ((xs.length : Int) + 1) = (xs.length : Int) + 1 := IntWalk.i64_in _ (by omega)
                go_wp2_with (first
                  | (go_at_call 27; go_must (refine (FlockSame_any _ _ _ _ xs _ (by omega) (M.out.slof 4 rfl) (M.out.slof 2 rfl)).mono ?_); rintro e w_ ⟨rfl, N_⟩; have m := M.out.join N_; clear N_; simp only [List.cons_append, List.nil_append, List.append_nil] at m; have M := Lib.hid m; clear m)
                  )
                go_ret
                exact ⟨rfl, M.out.take 0⟩
end Go.Proofs.Ytlonbgomdabmmaa
