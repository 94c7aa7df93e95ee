/- Texts of a proof, laid together: FearW. -/
import Derived.Test.YtoacnfofijikmaaGreatDoorZR21
namespace Go.Proofs.YtoacnfofijikmaaGreatDoor
set_option linter.unusedSimpArgs false
set_option linter.unusedVariables false
open Go.RowKit
attribute [local go_sem] cell?_mk frozen?_mk
--ONES exact Fld.one _ | exact Scarecrow.one _ | exact ints_one _ _ | exact Cs.one _

theorem neq100 (xs : List Int) (hl : xs.length = 100) (w : World) : (binOp .neq 27 (.agg (ints .i16 xs)) (.agg (ints .i16 xs))).run Tryz.prog w = .ok (.bool false) w := by
  have q1 := run_eqArr 9998 27 26 100 .i16 xs hl Tryz.underlying27 Tryz.underlying26 Tryz.isAgg26 Tryz.sizeOf26 w
  rw [run_neq_struct, show (10000 : Nat) = 9998 + 2 from rfl, q1]
  rfl
theorem neqCs (s : Cs) (w : World) : (binOp .neq 44 (.agg s.cells) (.agg s.cells)).run Tryz.prog w = .ok (.bool false) w := by
  have q1 := run_eqArr 9998 44 42 2 .u64 [s.lo, s.hi] rfl Tryz.underlying44 Tryz.underlying42 Tryz.isAgg42 Tryz.sizeOf42 w
  have e : s.cells = ints .u64 [s.lo, s.hi] := rfl
  rw [e, run_neq_struct, show (10000 : Nat) = 9998 + 2 from rfl, q1]
  rfl
theorem sl_one {w : World} {b off : Nat} {xs : List Scarecrow} (h : Sl w 3 (some ⟨b, off, none⟩) xs.length (flat Scarecrow.vals xs)) (i : Nat) (hi : i < xs.length) : Sl w 3 (some ⟨b, off + i * 3, none⟩) 1 (flat Scarecrow.vals [xs[i]]) := by
  have h1 := h.dropN Scarecrow.vl i (by omega)
  refine ⟨rfl, fun _ => ⟨b, off + i * 3, rfl, fun j v hv => ?_⟩⟩
  obtain ⟨b', off', he, hr⟩ := h1.2 (by omega)
  injection he with he
  injection he with e1 e2
  subst e1
  subst e2
  refine hr j v ?_
  have e : flat Scarecrow.vals (xs.drop i) = flat Scarecrow.vals [xs[i]] ++ flat Scarecrow.vals (xs.drop (i + 1)) := by rw [← flat_append, List.drop_eq_getElem_cons hi]; rfl
  rw [e, List.getElem?_append_left (List.getElem?_eq_some_iff.1 hv).1]
  exact hv
theorem ints100 {xs : List Int} (h : xs.length = 100) : (ints .i16 xs).size = 100 := by rw [ints_size, h]
set_option maxRecDepth 100000 in
set_option maxHeartbeats 20000000 in
theorem FnFear_any (A B : Option Addr) (na nb : Nat) (bs cs : List Int) (hb : ∀ x ∈ bs, U8.ok x) (hc : ∀ x ∈ cs, U8.ok x) (hbl : bs.length ≤ 4096) (hcl : cs.length ≤ 4096) (w : World) (htb : Tabs w) (hs : Sl w 1 A bs.length (flat oneB bs)) (ht : Sl w 1 B cs.length (flat oneB cs)) :
    Calls Tryz.prog 3 #[.slice A bs.length na, .slice B cs.length nb] w fun e w' => e = .returned (.bool true) ∧ Mem w w' [] := by
  have M := Lib.hid (Mem.start w)
  have HS := Lib.hid hs
  have HT := Lib.hid ht
  have HTB := Lib.hid htb
  have YB := Lib.hid (U8.bytes hb hbl)
  have YC := Lib.hid (U8.bytes hc hcl)
  have G1 := Lib.hid (show decide (4096 < bs.length) = false from decide_eq_false (by omega))
  have G2 := Lib.hid (show decide (4096 < cs.length) = false from decide_eq_false (by omega))
  clear hs ht htb hb hc hbl hcl
  go_enter Tryz.func3, Tryz.ntmps3
  go_wp2_with (first
    | (go_at_call 4; go_must (first | (refine Calls.mono (calls_args (by with_reducible rfl) (f6big_any A bs.length na _)) ?_) | (refine Calls.mono (calls_args (by with_reducible rfl) (f6big_any B cs.length nb _)) ?_)); rintro e w_ ⟨rfl, rfl⟩; first | rw [G1.out] | rw [G2.out])
    | (go_at_call 5; go_must (refine (P6Field_any A na bs YB.out _ (M.out.sl HS.out)).mono ?_); rintro e w_ ⟨F, rfl, hF, N_⟩; have m := M.out.join N_; clear N_; simp only [List.cons_append, List.nil_append, List.append_nil] at m; have M := Lib.hid m; clear m; have FD := Lib.hid hF; have S1 := Lib.hid (Fld.size hF.ok.toLen); clear hF)
    | ((with_reducible refine gate_dst (N := 5) rfl ?_); go_must (refine M.out.ev_new rfl (by first | (go_simp; done) | (go_simp; rfl)) ?_); intro g5 w5 m; simp only [List.cons_append, List.nil_append] at m; have M := Lib.hid m; clear m)
    | ((with_reducible refine gate_store (x := .tmp 5) rfl ?_); go_must (refine M.out.ev_stw 0 _ _ _ rfl rfl rfl rfl _ rfl (by rw [S1.out]; exact szZ) (by rw [S1.out]; exact sz29) (Fld.one _) rfl ?_); intro wn m; simp only [List.set_cons_zero, List.set_cons_succ] at m; have M := Lib.hid m; clear m)
    | ((with_reducible refine gate_dst (N := 70) rfl ?_); go_must (refine M.out.ev_ldw 0 _ _ rfl rfl rfl Tryz.underlying29 rfl (by rw [S1.out]; exact sz29) rfl ?_))
    | (go_at_call 6; go_must (refine (P6Scares_any B nb cs YC.out F FD.out _ (M.out.sl HT.out)).mono ?_); rintro e w_ ⟨xs, Bx, cp, rfl, hX, hcp, N_⟩; have m := M.out.join N_; clear N_; simp only [List.cons_append, List.nil_append, List.append_nil] at m; have M := Lib.hid m; clear m; have HX := Lib.hid hX; clear hX)
    | ((with_reducible refine gate_dst (N := 73) rfl ?_); go_must (refine M.out.ev_ldw 0 _ _ rfl rfl rfl Tryz.underlying29 rfl (by rw [S1.out]; exact sz29) rfl ?_))
    | (go_at_call 7; go_must (refine (P6Cell_any B nb cs YC.out F FD.out _ (M.out.sl HT.out)).mono ?_); rintro e w_ ⟨c, rfl, hc, hch, N_⟩; have m := M.out.join N_; clear N_; simp only [List.cons_append, List.nil_append, List.append_nil] at m; have M := Lib.hid m; clear m; have HCH := Lib.hid hch; clear hch)
    | (go_at_call 8; go_must (refine (P6Pick_any A na bs YB.out 10 (by decide) _ (M.out.sl HS.out)).mono ?_); rintro e w_ ⟨r, rfl, r0, r1, N_⟩; have m := M.out.join N_; clear N_; simp only [List.cons_append, List.nil_append, List.append_nil] at m; have M := Lib.hid m; clear m; obtain ⟨least, hleast⟩ : ∃ l, l = 1 + r := ⟨_, rfl⟩; have el : IntKind.i64.wrap (1 + r) = least := (by rw [hleast]; exact IntWalk.i64_in _ (by omega)); obtain ⟨T, MD, SC, dn, us, lg, hC⟩ := fear_calls F FD.out xs HX.out c hc HCH.out least (by omega) (by omega); have LE := Lib.hid hleast; have LB := Lib.hid (show 1 ≤ least ∧ least ≤ 10 by omega); have FC := Lib.hid hC; have SM := Lib.hid (ints100 hC.MDl); have SS := Lib.hid (show SC.cells.size = 2 from rfl); have nM := neq100 MD hC.MDl; have nC := neqCs SC; have c0 : (0 : Int) ≤ (c : Int) := (by omega); have c1 : (c : Int) < 100 := (by omega); obtain ⟨du, hdu⟩ : ∃ d, d = fearAt xs c := ⟨_, rfl⟩; have DU := Lib.hid hdu; have XC := Lib.hid (show (ints .i16 MD)[c]? = some (.int .i16 du) by rw [hdu, ← hC.MDc]; exact ints_at (by rw [hC.MDl]; exact hc)); have ed : IntKind.i64.wrap du = du := IntWalk.i64_in _ (by have := hC.fb xs (scOk_plain HX.out.sc); rw [← hdu] at this; omega); have FI := Lib.hid (fun A n w h => hC.fI A n w h); have FS := Lib.hid (fun A n w h => hC.fS A n w h); rw [← hdu] at FI FS; obtain ⟨X3, hX3⟩ : ∃ X, X = agedAll xs 3 := ⟨_, rfl⟩; have X3E := Lib.hid hX3; obtain ⟨ls, hls⟩ : ∃ d, d = fearAt X3 c := ⟨_, rfl⟩; have FA3 := Lib.hid (fun A n w h => hC.fA 3 A n w h); have AI3 := Lib.hid (show ∀ A n w, HoldS w A n xs → Calls Tryz.prog 17 #[.agg F.cells, .slice A xs.length n, .int .i64 3] w (RetRowC w 60 3 (agedAll xs 3).length (flat Scarecrow.vals (agedAll xs 3)) 0) from fun A n w h => hC.aI 3 (by decide) A n w h); have AS3 := Lib.hid (show ∀ A n w, HoldS w A n xs → Calls Tryz.prog 18 #[.agg F.cells, .slice A xs.length n, .int .i64 3] w (RetRowC w 60 3 (agedAll xs 3).length (flat Scarecrow.vals (agedAll xs 3)) 0) from fun A n w h => hC.aS 3 (by decide) A n w h); rw [← hX3] at FA3 AI3 AS3; rw [← hls] at FA3; have dl : decide (du < ls) = false := decide_eq_false (by have := hC.less; rw [← hX3, ← hls, ← hdu] at this; omega); have dl2 : ¬ (du < ls) := (by have := hC.less; rw [← hX3, ← hls, ← hdu] at this; omega); have x3l : X3.length ≤ 4 := (by rw [hX3]; unfold agedAll; rw [List.length_map]; exact hC.xl); have xl := hC.xl; clear hC hdu hX3 hls r0 r1 hleast)
    | (go_at_call 10; go_must (refine (FC.out.txt _ _ _ (M.out.tabs HTB.out).2.2.2 (M.out.holdS 1 rfl)).mono ?_); rintro e w_ ⟨rfl, N_⟩; have m := M.out.join N_; clear N_; simp only [List.cons_append, List.nil_append, List.append_nil] at m; have M := Lib.hid m; clear m)
    | (go_at_call 9; go_must (refine (FC.out.read _ (M.out.tabs HTB.out)).mono ?_); rintro e w_ ⟨A2, c2, rfl, hc2, N_⟩; have m := M.out.join N_; clear N_; simp only [List.cons_append, List.nil_append, List.append_nil] at m; have M := Lib.hid m; clear m)
    | ((with_reducible refine gate_dst (N := 85) rfl ?_); go_must (refine M.out.ev_ldw 0 _ _ rfl rfl rfl Tryz.underlying29 rfl (by rw [S1.out]; exact sz29) rfl ?_))
    | ((with_reducible refine gate_dst (N := 92) rfl ?_); go_must (refine M.out.ev_ldw 0 _ _ rfl rfl rfl Tryz.underlying29 rfl (by rw [S1.out]; exact sz29) rfl ?_))
    | ((with_reducible refine gate_dst (N := 99) rfl ?_); go_must (refine M.out.ev_ldw 0 _ _ rfl rfl rfl Tryz.underlying29 rfl (by rw [S1.out]; exact sz29) rfl ?_))
    | ((with_reducible refine gate_dst (N := 105) rfl ?_); go_must (refine M.out.ev_ldw 0 _ _ rfl rfl rfl Tryz.underlying29 rfl (by rw [S1.out]; exact sz29) rfl ?_))
    | ((with_reducible refine gate_dst (N := 111) rfl ?_); go_must (refine M.out.ev_ldw 0 _ _ rfl rfl rfl Tryz.underlying29 rfl (by rw [S1.out]; exact sz29) rfl ?_))
    | ((with_reducible refine gate_dst (N := 118) rfl ?_); go_must (refine M.out.ev_ldw 0 _ _ rfl rfl rfl Tryz.underlying29 rfl (by rw [S1.out]; exact sz29) rfl ?_))
    | ((with_reducible refine gate_dst (N := 125) rfl ?_); go_must (refine M.out.ev_ldw 0 _ _ rfl rfl rfl Tryz.underlying29 rfl (by rw [S1.out]; exact sz29) rfl ?_))
    | ((with_reducible refine gate_dst (N := 131) rfl ?_); go_must (refine M.out.ev_ldw 0 _ _ rfl rfl rfl Tryz.underlying29 rfl (by rw [S1.out]; exact sz29) rfl ?_))
    | ((with_reducible refine gate_dst (N := 137) rfl ?_); go_must (refine M.out.ev_ldw 0 _ _ rfl rfl rfl Tryz.underlying29 rfl (by rw [S1.out]; exact sz29) rfl ?_))
    | (go_at_call 11; go_must (first | (refine Calls.mono (calls_args (by with_reducible rfl) (FI.out _ _ _ (M.out.holdS 1 rfl))) ?_) | (refine Calls.mono (calls_args (by with_reducible rfl) (FA3.out _ _ _ (M.out.holdS 8 rfl))) ?_)); rintro e w_ ⟨rfl, N_⟩; have m := M.out.join N_; clear N_; simp only [List.cons_append, List.nil_append, List.append_nil] at m; have M := Lib.hid m; clear m)
    | (go_at_call 12; go_must (refine (FS.out _ _ _ (M.out.holdS 1 rfl)).mono ?_); rintro e w_ ⟨rfl, N_⟩; have m := M.out.join N_; clear N_; simp only [List.cons_append, List.nil_append, List.append_nil] at m; have M := Lib.hid m; clear m)
    | (go_at_call 13; go_must (refine (FC.out.mI _ _ _ (M.out.holdS 1 rfl)).mono ?_); rintro e w_ ⟨rfl, N_⟩; have m := M.out.join N_; clear N_; simp only [List.cons_append, List.nil_append, List.append_nil] at m; have M := Lib.hid m; clear m)
    | ((with_reducible refine gate_dst (N := 15) rfl ?_); go_must (refine M.out.ev_new rfl (by first | (go_simp; done) | (go_simp; rfl)) ?_); intro g15 w15 m; simp only [List.cons_append, List.nil_append] at m; have M := Lib.hid m; clear m)
    | ((with_reducible refine gate_store (x := .tmp 15) rfl ?_); go_must (refine M.out.ev_stw 3 _ _ _ rfl rfl rfl rfl _ rfl (by rw [SM.out]; first | rfl | kernel_rfl) (by rw [SM.out]; exact sz27) (ints_one _ _) rfl ?_); intro wn m; simp only [List.set_cons_zero, List.set_cons_succ] at m; have M := Lib.hid m; clear m)
    | (go_at_call 14; go_must (refine (FC.out.mS _ _ _ (M.out.holdS 1 rfl)).mono ?_); rintro e w_ ⟨rfl, N_⟩; have m := M.out.join N_; clear N_; simp only [List.cons_append, List.nil_append, List.append_nil] at m; have M := Lib.hid m; clear m)
    | ((with_reducible refine gate_dst (N := 17) rfl ?_); go_must (refine M.out.ev_new rfl (by first | (go_simp; done) | (go_simp; rfl)) ?_); intro g17 w17 m; simp only [List.cons_append, List.nil_append] at m; have M := Lib.hid m; clear m)
    | ((with_reducible refine gate_store (x := .tmp 17) rfl ?_); go_must (refine M.out.ev_stw 4 _ _ _ rfl rfl rfl rfl _ rfl (by rw [SM.out]; first | rfl | kernel_rfl) (by rw [SM.out]; exact sz27) (ints_one _ _) rfl ?_); intro wn m; simp only [List.set_cons_zero, List.set_cons_succ] at m; have M := Lib.hid m; clear m)
    | (go_at_call 15; go_must (refine (FC.out.cI _ _ _ (M.out.holdS 1 rfl)).mono ?_); rintro e w_ ⟨rfl, N_⟩; have m := M.out.join N_; clear N_; simp only [List.cons_append, List.nil_append, List.append_nil] at m; have M := Lib.hid m; clear m)
    | ((with_reducible refine gate_dst (N := 19) rfl ?_); go_must (refine M.out.ev_new rfl (by first | (go_simp; done) | (go_simp; rfl)) ?_); intro g19 w19 m; simp only [List.cons_append, List.nil_append] at m; have M := Lib.hid m; clear m)
    | ((with_reducible refine gate_store (x := .tmp 19) rfl ?_); go_must (refine M.out.ev_stw 5 _ _ _ rfl rfl rfl rfl _ rfl (by rw [SS.out]; first | rfl | kernel_rfl) (by rw [SS.out]; exact sz44) (Cs.one _) rfl ?_); intro wn m; simp only [List.set_cons_zero, List.set_cons_succ] at m; have M := Lib.hid m; clear m)
    | (go_at_call 16; go_must (refine (FC.out.cS _ _ _ (M.out.holdS 1 rfl)).mono ?_); rintro e w_ ⟨rfl, N_⟩; have m := M.out.join N_; clear N_; simp only [List.cons_append, List.nil_append, List.append_nil] at m; have M := Lib.hid m; clear m)
    | ((with_reducible refine gate_dst (N := 21) rfl ?_); go_must (refine M.out.ev_new rfl (by first | (go_simp; done) | (go_simp; rfl)) ?_); intro g21 w21 m; simp only [List.cons_append, List.nil_append] at m; have M := Lib.hid m; clear m)
    | ((with_reducible refine gate_store (x := .tmp 21) rfl ?_); go_must (refine M.out.ev_stw 6 _ _ _ rfl rfl rfl rfl _ rfl (by rw [SS.out]; first | rfl | kernel_rfl) (by rw [SS.out]; exact sz44) (Cs.one _) rfl ?_); intro wn m; simp only [List.set_cons_zero, List.set_cons_succ] at m; have M := Lib.hid m; clear m)
    | (go_at_call 17; go_must (first | (refine Calls.mono (calls_args (by with_reducible rfl) (AI3.out _ _ _ (M.out.holdS 1 rfl))) ?_)); rintro e w_ ⟨A7, c7, rfl, hc7, N_⟩; have m := M.out.join N_; clear N_; simp only [List.cons_append, List.nil_append, List.append_nil] at m; have M := Lib.hid m; clear m)
    | (go_at_call 18; go_must (first | (refine Calls.mono (calls_args (by with_reducible rfl) (AS3.out _ _ _ (M.out.holdS 1 rfl))) ?_)); rintro e w_ ⟨A8, c8, rfl, hc8, N_⟩; have m := M.out.join N_; clear N_; simp only [List.cons_append, List.nil_append, List.append_nil] at m; have M := Lib.hid m; clear m)
    | (go_at_call 19; go_must (first | (refine Calls.mono (calls_args (by with_reducible rfl) (ScarecrowSame_any _ _ _ _ xs _ (by omega) (M.out.slof 2 rfl) (M.out.slof 1 rfl))) ?_) | (refine Calls.mono (calls_args (by with_reducible rfl) (ScarecrowSame_any _ _ _ _ X3 _ (by omega) (M.out.slof 7 rfl) (M.out.slof 8 rfl))) ?_)); rintro e w_ ⟨rfl, N_⟩; have m := M.out.join N_; clear N_; simp only [List.cons_append, List.nil_append, List.append_nil] at m; have M := Lib.hid m; clear m)
    | (go_at_call 20; go_must (refine (impl_SameScares_any _ _ _ _ xs _ (by omega) (M.out.slof 2 rfl) (M.out.slof 1 rfl)).mono ?_); rintro e w_ ⟨rfl, N_⟩; have m := M.out.join N_; clear N_; simp only [List.cons_append, List.nil_append, List.append_nil] at m; have M := Lib.hid m; clear m)
    | ((with_reducible refine gate_dst (N := 158) rfl ?_); refine gate_want rfl ?_; go_must (refine M.out.ev_ldw 0 _ _ rfl rfl rfl Tryz.underlying29 rfl (by rw [S1.out]; exact sz29) rfl ?_))
    | (go_at_call 21; go_must (refine (FC.out.vs _ _ _ (M.out.holdS 1 rfl)).mono ?_); rintro e w_ ⟨rfl, N_⟩; have m := M.out.join N_; clear N_; simp only [List.cons_append, List.nil_append, List.append_nil] at m; have M := Lib.hid m; clear m)
    | ((with_reducible refine gate_dst (N := 187) rfl ?_); refine gate_want rfl ?_; go_must (refine M.out.ev_ldw 3 _ _ rfl rfl rfl Tryz.underlying27 rfl (by rw [SM.out]; exact sz27) rfl ?_))
    | ((with_reducible refine gate_dst (N := 188) rfl ?_); refine gate_want rfl ?_; go_must (refine M.out.ev_ldw 4 _ _ rfl rfl rfl Tryz.underlying27 rfl (by rw [SM.out]; exact sz27) rfl ?_))
    | ((with_reducible refine gate_dst (N := 194) rfl ?_); refine gate_want rfl ?_; go_must (refine M.out.ev_ld 4 _ _ rfl rfl rfl Tryz.underlying26 rfl rfl XC.out ?_))
    | ((with_reducible refine gate_dst (N := 209) rfl ?_); refine gate_want rfl ?_; go_must (refine M.out.ev_ldw 5 _ _ rfl rfl rfl Tryz.underlying44 rfl (by rw [SS.out]; exact sz44) rfl ?_))
    | ((with_reducible refine gate_dst (N := 210) rfl ?_); refine gate_want rfl ?_; go_must (refine M.out.ev_ldw 6 _ _ rfl rfl rfl Tryz.underlying44 rfl (by rw [SS.out]; exact sz44) rfl ?_))
    )
  simp only [List.append_eq, List.cons_append, List.nil_append]
  go_wp2_with (first
    | (go_at_call 19; go_must (first | (refine Calls.mono (calls_args (by with_reducible rfl) (ScarecrowSame_any _ _ _ _ xs _ (by omega) (M.out.slof 2 rfl) (M.out.slof 1 rfl))) ?_) | (refine Calls.mono (calls_args (by with_reducible rfl) (ScarecrowSame_any _ _ _ _ X3 _ (by omega) (M.out.slof 7 rfl) (M.out.slof 8 rfl))) ?_)); rintro e w_ ⟨rfl, N_⟩; have m := M.out.join N_; clear N_; simp only [List.cons_append, List.nil_append, List.append_nil] at m; have M := Lib.hid m; clear m)
    | (go_at_call 20; go_must (refine (impl_SameScares_any _ _ _ _ xs _ (by omega) (M.out.slof 2 rfl) (M.out.slof 1 rfl)).mono ?_); rintro e w_ ⟨rfl, N_⟩; have m := M.out.join N_; clear N_; simp only [List.cons_append, List.nil_append, List.append_nil] at m; have M := Lib.hid m; clear m)
    | ((with_reducible refine gate_dst (N := 158) rfl ?_); refine gate_want rfl ?_; go_must (refine M.out.ev_ldw 0 _ _ rfl rfl rfl Tryz.underlying29 rfl (by rw [S1.out]; exact sz29) rfl ?_))
    | (go_at_call 21; go_must (refine (FC.out.vs _ _ _ (M.out.holdS 1 rfl)).mono ?_); rintro e w_ ⟨rfl, N_⟩; have m := M.out.join N_; clear N_; simp only [List.cons_append, List.nil_append, List.append_nil] at m; have M := Lib.hid m; clear m)
    | ((with_reducible refine gate_dst (N := 187) rfl ?_); refine gate_want rfl ?_; go_must (refine M.out.ev_ldw 3 _ _ rfl rfl rfl Tryz.underlying27 rfl (by rw [SM.out]; exact sz27) rfl ?_))
    | ((with_reducible refine gate_dst (N := 188) rfl ?_); refine gate_want rfl ?_; go_must (refine M.out.ev_ldw 4 _ _ rfl rfl rfl Tryz.underlying27 rfl (by rw [SM.out]; exact sz27) rfl ?_))
    | ((with_reducible refine gate_dst (N := 194) rfl ?_); refine gate_want rfl ?_; go_must (refine M.out.ev_ld 4 _ _ rfl rfl rfl Tryz.underlying26 rfl rfl XC.out ?_))
    | ((with_reducible refine gate_dst (N := 209) rfl ?_); refine gate_want rfl ?_; go_must (refine M.out.ev_ldw 5 _ _ rfl rfl rfl Tryz.underlying44 rfl (by rw [SS.out]; exact sz44) rfl ?_))
    | ((with_reducible refine gate_dst (N := 210) rfl ?_); refine gate_want rfl ?_; go_must (refine M.out.ev_ldw 6 _ _ rfl rfl rfl Tryz.underlying44 rfl (by rw [SS.out]; exact sz44) rfl ?_))
    )
  go_loopw [29, 30] (fun s v wr => ∃ i : Nat, i ≤ xs.length ∧ v = .int .i64 i ∧ s = .int .i64 (fearAt (xs.take i) c) ∧ Mem w wr [.blk g5 29 F.cells, .row (.slice Bx xs.length cp) 60 3 xs.length (flat Scarecrow.vals xs), .row (.slice A2 xs.length c2) 60 3 xs.length (flat Scarecrow.vals xs), .blk g15 27 (ints .i16 MD), .blk g17 27 (ints .i16 MD), .blk g19 44 SC.cells, .blk g21 44 SC.cells, .row (.slice A7 X3.length c7) 60 3 X3.length (flat Scarecrow.vals X3), .row (.slice A8 X3.length c8) 60 3 X3.length (flat Scarecrow.vals X3)])
    (fun _ v _ => xs.length - (intOf v).toNat)
  case atStart => exact ⟨0, by omega, rfl, rfl, M.out⟩
  case round =>
    clear M
    obtain ⟨i, hi, rfl, rfl, m⟩ := hrel
    have M := Lib.hid m
    clear m
    by_cases hlt : i < xs.length
    · as_aux_lemma =>
      obtain ⟨fi, hfi⟩ : ∃ d, d = fearAt [xs[i]] c := ⟨_, rfl⟩
      obtain ⟨s1, hs1⟩ : ∃ s, s = fearAt (xs.take i) c := ⟨_, rfl⟩
      obtain ⟨s2, hs2⟩ : ∃ s, s = fearAt (xs.take (i + 1)) c := ⟨_, rfl⟩
      have HS2 := Lib.hid hs2
      have hmx : max s1 fi = s2 := by rw [hs1, hfi, hs2]; exact (FC.out.most i hlt).symm
      have F1 := Lib.hid (fun A n w h => FC.out.f1 i hlt A n w h)
      rw [← hfi] at F1
      rw [← hs1]
      obtain ⟨y, hy⟩ : ∃ y, y = xs[i] := ⟨_, rfl⟩
      obtain ⟨b, off, rfl, hr⟩ := (M.out.slof 1 rfl).2 (by omega)
      have ONE := Lib.hid (fun w' h => (sl_one (w := w') (b := b) (off := off) (xs := xs) h i hlt))
      rw [← hy] at ONE F1
      have cpB := (M.out.row_cap 1 rfl)
      have cpA := (M.out.row_le 1 rfl).1
      have i0 : (0 : Int) ≤ (i : Int) := by omega
      have i1 : (i : Int) < (xs.length : Int) := by omega
      have i2 : (i : Int) ≤ (i : Int) + 1 := by omega
      have i3 : (i : Int) + 1 ≤ (cp : Int) := by omega
      have i4 : IntKind.i64.wrap ((i : Int) + 1) = (i : Int) + 1 := IntWalk.i64_in _ (by omega)
      have i5 : (0 : Int) ≤ (i : Int) + 1 := by omega
      have i6 : i ≤ i + 1 := by omega
      have i7 : ¬ (cp = i) := by omega
      have i8 : ((i : Int) + 1).toNat = i + 1 := by omega
      have i9 : i + 1 - i = 1 := by omega
      clear hr hfi hs1 hs2 hy
      go_wp2
      refine region_anyH (fun w' => Mem w w' [.blk g5 29 F.cells, .row (.slice (some ⟨b, off, none⟩) xs.length cp) 60 3 xs.length (flat Scarecrow.vals xs), .row (.slice A2 xs.length c2) 60 3 xs.length (flat Scarecrow.vals xs), .blk g15 27 (ints .i16 MD), .blk g17 27 (ints .i16 MD), .blk g19 44 SC.cells, .blk g21 44 SC.cells, .row (.slice A7 X3.length c7) 60 3 X3.length (flat Scarecrow.vals X3), .row (.slice A8 X3.length c8) 60 3 X3.length (flat Scarecrow.vals X3)]) (by kernel_rfl) ?_
      have m := M.out.drew
      clear M
      have M := Lib.hid m
      clear m
      apply takeH (i := 0) 244 rfl (by kernel_rfl) (by kernel_rfl) (by kernel_rfl) (fun _ _ _ h => h) rfl (by first | exact M.out | exact M.out.take 9)
      case' hy => exact yldw _ _ rfl rfl Tryz.underlying29 rfl (by first | exact sz29 | (rw [S1.out]; exact sz29) | (rw [S2.out]; exact sz29) | (rw [S3.out]; exact sz29)) rfl (fun w' hS => hS.blk 0 rfl)
      try simp only [Act.put, List.getElem_toArray, List.getElem_cons_succ, List.getElem_cons_zero, List.setIfInBounds_toArray, List.set_cons_succ, List.set_cons_zero]
      apply takeH (i := 1) 245 rfl (by kernel_rfl) (by kernel_rfl) (by kernel_rfl) (fun _ _ _ h => h) rfl (by first | exact M.out | exact M.out.take 9)
      case' hy =>
        refine Or.inl ⟨by first | rfl | (go_simp; done), ?_⟩
        intro w hS
        clear hS
        go_simp
        try with_reducible rfl
      try simp only [Act.put, List.getElem_toArray, List.getElem_cons_succ, List.getElem_cons_zero, List.setIfInBounds_toArray, List.set_cons_succ, List.set_cons_zero]
      apply takeH (i := 2) 246 rfl (by kernel_rfl) (by kernel_rfl) (by kernel_rfl) (fun _ _ _ h => h) rfl (by first | exact M.out | exact M.out.take 9)
      case' hy =>
        refine Or.inl ⟨by first | rfl | (go_simp; done), ?_⟩
        intro w hS
        clear hS
        go_simp
        try with_reducible rfl
      try simp only [Act.put, List.getElem_toArray, List.getElem_cons_succ, List.getElem_cons_zero, List.setIfInBounds_toArray, List.set_cons_succ, List.set_cons_zero]
      apply takeH (i := 3) 247 rfl (by kernel_rfl) (by kernel_rfl) (by kernel_rfl) (fun _ _ _ h => h) rfl (by first | exact M.out | exact M.out.take 9)
      case' hy =>
        refine Or.inl ⟨by first | rfl | (go_simp; done), ?_⟩
        intro w hS
        clear hS
        go_simp
        try with_reducible rfl
      try simp only [Act.put, List.getElem_toArray, List.getElem_cons_succ, List.getElem_cons_zero, List.setIfInBounds_toArray, List.set_cons_succ, List.set_cons_zero]
      apply takeH (i := 4) 248 rfl (by kernel_rfl) (by kernel_rfl) (by kernel_rfl) (fun _ _ _ h => h) rfl (by first | exact M.out | exact M.out.take 9)
      case' hy =>
        refine Or.inl ⟨by first | rfl | (go_simp; done), ?_⟩
        intro w hS
        clear hS
        go_simp
        try with_reducible rfl
      try simp only [Act.put, List.getElem_toArray, List.getElem_cons_succ, List.getElem_cons_zero, List.setIfInBounds_toArray, List.set_cons_succ, List.set_cons_zero]
      apply takeH (i := 5) 249 rfl (by kernel_rfl) (by kernel_rfl) (by kernel_rfl) (fun _ _ _ h => h) rfl (by first | exact M.out | exact M.out.take 9)
      case' hy =>
        refine Or.inl ⟨by first | rfl | (go_simp; done), ?_⟩
        intro w hS
        clear hS
        go_simp
        try with_reducible rfl
      try simp only [Act.put, List.getElem_toArray, List.getElem_cons_succ, List.getElem_cons_zero, List.setIfInBounds_toArray, List.set_cons_succ, List.set_cons_zero]
      apply takeH (i := 6) 250 rfl (by kernel_rfl) (by kernel_rfl) (by kernel_rfl) (fun _ _ _ h => h) rfl (by first | exact M.out | exact M.out.take 9)
      case' hy =>
        refine Or.inl ⟨by first | rfl | (go_simp; done), ?_⟩
        intro w hS
        clear hS
        go_simp
        try with_reducible rfl
      try simp only [Act.put, List.getElem_toArray, List.getElem_cons_succ, List.getElem_cons_zero, List.setIfInBounds_toArray, List.set_cons_succ, List.set_cons_zero]
      refine any1H 7 (by kernel_rfl) rfl (fun K hK => ?_)
      go_wp2_with (first | ((with_reducible refine gate_dst (N := 244) rfl ?_); go_must (refine M.out.ev_ldw 0 _ _ rfl rfl rfl Tryz.underlying29 rfl (by first | exact sz29 | (rw [S1.out]; exact sz29) | (rw [S2.out]; exact sz29) | (rw [S3.out]; exact sz29)) rfl ?_)) | (go_at_call 11; go_must (refine (F1.out _ _ _ ⟨ONE.out _ (M.out.slof 1 rfl), by simp; omega, by omega, fun h => by cases h⟩).mono ?_); rintro e w_ ⟨rfl, N_⟩; have m := M.out.join N_; clear N_; simp only [List.cons_append, List.nil_append, List.append_nil] at m; have M := Lib.hid m; clear m))
      refine onward_normal (hK _ _ ⟨(by first | exact M.out | exact M.out.take 9), ?_⟩)
      clear hK K
      try simp only [Act.put, List.getElem_toArray, List.getElem_cons_succ, List.getElem_cons_zero, List.setIfInBounds_toArray, List.set_cons_succ, List.set_cons_zero]
      apply takeH (i := 8) 243 rfl (by kernel_rfl) (by kernel_rfl) (by kernel_rfl) (fun _ _ _ h => h) rfl (by first | exact M.out | exact M.out.take 9)
      case' hy =>
        refine Or.inl ⟨by first | rfl | (go_simp; done), ?_⟩
        intro w hS
        clear hS
        go_simp
        try with_reducible rfl
      try simp only [Act.put, List.getElem_toArray, List.getElem_cons_succ, List.getElem_cons_zero, List.setIfInBounds_toArray, List.set_cons_succ, List.set_cons_zero]
      apply takeH (i := 9) 252 rfl (by kernel_rfl) (by kernel_rfl) (by kernel_rfl) (fun _ _ _ h => h) rfl (by first | exact M.out | exact M.out.take 9)
      case' hy =>
        refine Or.inl ⟨by first | rfl | (go_simp; done), ?_⟩
        intro w hS
        clear hS
        go_simp
        try with_reducible rfl
      try simp only [Act.put, List.getElem_toArray, List.getElem_cons_succ, List.getElem_cons_zero, List.setIfInBounds_toArray, List.set_cons_succ, List.set_cons_zero]
      apply takeH (i := 10) 253 rfl (by kernel_rfl) (by kernel_rfl) (by kernel_rfl) (fun _ _ _ h => h) rfl (by first | exact M.out | exact M.out.take 9)
      case' hy =>
        refine Or.inl ⟨by first | rfl | (go_simp; done), ?_⟩
        intro w hS
        clear hS
        go_simp
        try with_reducible rfl
      try simp only [Act.put, List.getElem_toArray, List.getElem_cons_succ, List.getElem_cons_zero, List.setIfInBounds_toArray, List.set_cons_succ, List.set_cons_zero]
      apply takeH (i := 11) 31 rfl (by kernel_rfl) (by kernel_rfl) (by kernel_rfl) (fun _ _ _ h => h) rfl (by first | exact M.out | exact M.out.take 9)
      case' hy =>
        refine Or.inl ⟨by first | rfl | (go_simp; done), ?_⟩
        intro w hS
        clear hS
        go_simp
        try with_reducible rfl
      try simp only [Act.put, List.getElem_toArray, List.getElem_cons_succ, List.getElem_cons_zero, List.setIfInBounds_toArray, List.set_cons_succ, List.set_cons_zero]
      apply takeH (i := 12) 32 rfl (by kernel_rfl) (by kernel_rfl) (by kernel_rfl) (fun _ _ _ h => h) rfl (by first | exact M.out | exact M.out.take 9)
      case' hy =>
        refine Or.inl ⟨by first | rfl | (go_simp; done), ?_⟩
        intro w hS
        clear hS
        go_simp
        try with_reducible rfl
      try simp only [Act.put, List.getElem_toArray, List.getElem_cons_succ, List.getElem_cons_zero, List.setIfInBounds_toArray, List.set_cons_succ, List.set_cons_zero]
      refine wpAnyH_done (by kernel_rfl) ?_ _
      all_goals
        go_wp2
        exact ⟨⟨i + 1, hlt, by go_num, by rw [HS2.out], M.out.take 9⟩, by simp [intOf]; omega⟩
    · as_aux_lemma =>
      obtain rfl : i = xs.length := by omega
      rw [show fearAt (xs.take xs.length) c = du by rw [List.take_length, DU.out]]
      have i9 : ¬ ((xs.length : Int) < (xs.length : Int)) := by omega
      clear hlt hi
      go_wp2
      go_loopw [33] (fun v wr => ∃ k : Nat, k ≤ 100 ∧ v = .int .i64 k ∧ Mem w wr [.blk g5 29 F.cells, .row (.slice Bx xs.length cp) 60 3 xs.length (flat Scarecrow.vals xs), .row (.slice A2 xs.length c2) 60 3 xs.length (flat Scarecrow.vals xs), .blk g15 27 (ints .i16 MD), .blk g17 27 (ints .i16 MD), .blk g19 44 SC.cells, .blk g21 44 SC.cells, .row (.slice A7 X3.length c7) 60 3 X3.length (flat Scarecrow.vals X3), .row (.slice A8 X3.length c8) 60 3 X3.length (flat Scarecrow.vals X3)])
        (fun v _ => 100 - (intOf v).toNat)
      case atStart => exact ⟨0, by omega, rfl, M.out.take 9⟩
      case round =>
        clear M i9
        obtain ⟨k, hk, rfl, m⟩ := hrel
        have M := Lib.hid m
        clear m
        by_cases hlt : k < 100
        · as_aux_lemma =>
          obtain ⟨md, hmd⟩ : ∃ x, x = gi MD k := ⟨_, rfl⟩
          have XK := Lib.hid (show (ints .i16 MD)[k]? = some (.int .i16 md) by rw [hmd]; exact ints_at (by rw [FC.out.MDl]; exact hlt))
          have mb : IntKind.i64.wrap md = md := IntWalk.i64_in _ (by have := FC.out.MDb k; omega)
          have hsc := FC.out.sc k hlt
          rw [← hmd] at hsc
          have HC_ := Lib.hid (fun w1 => HasCellS_any SC FC.out.SCok k hlt w1)
          have IS_ := Lib.hid (fun w1 => IsSoil_any F FD.out.ok k hlt w1)
          obtain ⟨hb, hhb⟩ : ∃ x, x = SC.has k := ⟨_, rfl⟩
          obtain ⟨so, hso⟩ : ∃ x, x = (F.has (k : Int) && (F.kind k == 0)) := ⟨_, rfl⟩
          rw [← hhb] at HC_ hsc
          rw [← hso] at IS_ hsc
          have S2 := SS
          have k0 : (0 : Int) ≤ (k : Int) := by omega
          have k1 : (k : Int) < 100 := by omega
          clear hmd hhb hso
          cases so with
          | false =>
            obtain rfl : hb = false := by rw [hsc]; rfl
            clear hsc
            go_wp2
            refine region_anyH (fun w' => Mem w w' [.blk g5 29 F.cells, .row (.slice Bx xs.length cp) 60 3 xs.length (flat Scarecrow.vals xs), .row (.slice A2 xs.length c2) 60 3 xs.length (flat Scarecrow.vals xs), .blk g15 27 (ints .i16 MD), .blk g17 27 (ints .i16 MD), .blk g19 44 SC.cells, .blk g21 44 SC.cells, .row (.slice A7 X3.length c7) 60 3 X3.length (flat Scarecrow.vals X3), .row (.slice A8 X3.length c8) 60 3 X3.length (flat Scarecrow.vals X3)]) (by kernel_rfl) ?_
            have m := M.out.drew
            clear M
            have M := Lib.hid m
            clear m
            apply takeH (i := 0) 266 rfl (by kernel_rfl) (by kernel_rfl) (by kernel_rfl) (fun _ _ _ h => h) rfl (by first | exact M.out | exact M.out.take 9)
            case' hy => exact yldw _ _ rfl rfl Tryz.underlying44 rfl (by first | exact sz44 | (rw [S1.out]; exact sz44) | (rw [S2.out]; exact sz44) | (rw [S3.out]; exact sz44)) rfl (fun w' hS => hS.blk 6 rfl)
            try simp only [Act.put, List.getElem_toArray, List.getElem_cons_succ, List.getElem_cons_zero, List.setIfInBounds_toArray, List.set_cons_succ, List.set_cons_zero]
            apply takeH (i := 1) 267 rfl (by kernel_rfl) (by kernel_rfl) (by kernel_rfl) (fun _ _ _ h => h) rfl (by first | exact M.out | exact M.out.take 9)
            case' hy =>
              refine Or.inl ⟨by first | rfl | (go_simp; done), ?_⟩
              intro w hS
              clear hS
              go_simp
              try with_reducible rfl
            try simp only [Act.put, List.getElem_toArray, List.getElem_cons_succ, List.getElem_cons_zero, List.setIfInBounds_toArray, List.set_cons_succ, List.set_cons_zero]
            apply takeH (i := 3) 269 rfl (by kernel_rfl) (by kernel_rfl) (by kernel_rfl) (fun _ _ _ h => h) rfl (by first | exact M.out | exact M.out.take 9)
            case' hy => exact yldw _ _ rfl rfl Tryz.underlying29 rfl (by first | exact sz29 | (rw [S1.out]; exact sz29) | (rw [S2.out]; exact sz29) | (rw [S3.out]; exact sz29)) rfl (fun w' hS => hS.blk 0 rfl)
            try simp only [Act.put, List.getElem_toArray, List.getElem_cons_succ, List.getElem_cons_zero, List.setIfInBounds_toArray, List.set_cons_succ, List.set_cons_zero]
            apply takeH (i := 4) 270 rfl (by kernel_rfl) (by kernel_rfl) (by kernel_rfl) (fun _ _ _ h => h) rfl (by first | exact M.out | exact M.out.take 9)
            case' hy =>
              refine Or.inl ⟨by first | rfl | (go_simp; done), ?_⟩
              intro w hS
              clear hS
              go_simp
              try with_reducible rfl
            try simp only [Act.put, List.getElem_toArray, List.getElem_cons_succ, List.getElem_cons_zero, List.setIfInBounds_toArray, List.set_cons_succ, List.set_cons_zero]
            refine any1H 2 (by kernel_rfl) rfl (fun K hK => ?_)
            go_wp2_with (first | ((with_reducible refine gate_dst (N := 266) rfl ?_); go_must (refine M.out.ev_ldw 6 _ _ rfl rfl rfl Tryz.underlying44 rfl (by first | exact sz44 | (rw [S1.out]; exact sz44) | (rw [S2.out]; exact sz44) | (rw [S3.out]; exact sz44)) rfl ?_)) | ((with_reducible refine gate_dst (N := 269) rfl ?_); go_must (refine M.out.ev_ldw 0 _ _ rfl rfl rfl Tryz.underlying29 rfl (by first | exact sz29 | (rw [S1.out]; exact sz29) | (rw [S2.out]; exact sz29) | (rw [S3.out]; exact sz29)) rfl ?_)) | (go_at_call 22; go_must (refine (HC_.out _).mono ?_); rintro e w_ ⟨rfl, N_⟩; have m := M.out.join N_; clear N_; simp only [List.cons_append, List.nil_append, List.append_nil] at m; have M := Lib.hid m; clear m) | (go_at_call 23; go_must (refine (IS_.out _).mono ?_); rintro e w_ ⟨rfl, N_⟩; have m := M.out.join N_; clear N_; simp only [List.cons_append, List.nil_append, List.append_nil] at m; have M := Lib.hid m; clear m))
            refine onward_normal (hK _ _ ⟨(by first | exact M.out | exact M.out.take 9), ?_⟩)
            clear hK K
            try simp only [Act.put, List.getElem_toArray, List.getElem_cons_succ, List.getElem_cons_zero, List.setIfInBounds_toArray, List.set_cons_succ, List.set_cons_zero]
            refine any1H 5 (by kernel_rfl) rfl (fun K hK => ?_)
            go_wp2_with (first | ((with_reducible refine gate_dst (N := 266) rfl ?_); go_must (refine M.out.ev_ldw 6 _ _ rfl rfl rfl Tryz.underlying44 rfl (by first | exact sz44 | (rw [S1.out]; exact sz44) | (rw [S2.out]; exact sz44) | (rw [S3.out]; exact sz44)) rfl ?_)) | ((with_reducible refine gate_dst (N := 269) rfl ?_); go_must (refine M.out.ev_ldw 0 _ _ rfl rfl rfl Tryz.underlying29 rfl (by first | exact sz29 | (rw [S1.out]; exact sz29) | (rw [S2.out]; exact sz29) | (rw [S3.out]; exact sz29)) rfl ?_)) | (go_at_call 22; go_must (refine (HC_.out _).mono ?_); rintro e w_ ⟨rfl, N_⟩; have m := M.out.join N_; clear N_; simp only [List.cons_append, List.nil_append, List.append_nil] at m; have M := Lib.hid m; clear m) | (go_at_call 23; go_must (refine (IS_.out _).mono ?_); rintro e w_ ⟨rfl, N_⟩; have m := M.out.join N_; clear N_; simp only [List.cons_append, List.nil_append, List.append_nil] at m; have M := Lib.hid m; clear m))
            refine onward_normal (hK _ _ ⟨(by first | exact M.out | exact M.out.take 9), ?_⟩)
            clear hK K
            try simp only [Act.put, List.getElem_toArray, List.getElem_cons_succ, List.getElem_cons_zero, List.setIfInBounds_toArray, List.set_cons_succ, List.set_cons_zero]
            apply takeH (i := 6) 272 rfl (by kernel_rfl) (by kernel_rfl) (by kernel_rfl) (fun _ _ _ h => h) rfl (by first | exact M.out | exact M.out.take 9)
            case' hy =>
              refine Or.inl ⟨by first | rfl | (go_simp; done), ?_⟩
              intro w hS
              clear hS
              go_simp
              try with_reducible rfl
            try simp only [Act.put, List.getElem_toArray, List.getElem_cons_succ, List.getElem_cons_zero, List.setIfInBounds_toArray, List.set_cons_succ, List.set_cons_zero]
            refine wpAnyH_take (i := 7) (v := undef) rfl (by kernel_rfl) (by kernel_rfl) (by kernel_rfl) (fun _ _ _ h => h) (Or.inr ⟨by kernel_rfl, rfl⟩) (by first | exact M.out | exact M.out.take 9) ?_
            try simp only [Act.put, List.getElem_toArray, List.getElem_cons_succ, List.getElem_cons_zero, List.setIfInBounds_toArray, List.set_cons_succ, List.set_cons_zero]
            refine wpAnyH_take (i := 8) (v := undef) rfl (by kernel_rfl) (by kernel_rfl) (by kernel_rfl) (fun _ _ _ h => h) (Or.inr ⟨by kernel_rfl, rfl⟩) (by first | exact M.out | exact M.out.take 9) ?_
            try simp only [Act.put, List.getElem_toArray, List.getElem_cons_succ, List.getElem_cons_zero, List.setIfInBounds_toArray, List.set_cons_succ, List.set_cons_zero]
            refine wpAnyH_take (i := 9) (v := undef) rfl (by kernel_rfl) (by kernel_rfl) (by kernel_rfl) (fun _ _ _ h => h) (Or.inr ⟨by kernel_rfl, rfl⟩) (by first | exact M.out | exact M.out.take 9) ?_
            try simp only [Act.put, List.getElem_toArray, List.getElem_cons_succ, List.getElem_cons_zero, List.setIfInBounds_toArray, List.set_cons_succ, List.set_cons_zero]
            refine wpAnyH_take (i := 10) (v := undef) rfl (by kernel_rfl) (by kernel_rfl) (by kernel_rfl) (fun _ _ _ h => h) (Or.inr ⟨by kernel_rfl, rfl⟩) (by first | exact M.out | exact M.out.take 9) ?_
            try simp only [Act.put, List.getElem_toArray, List.getElem_cons_succ, List.getElem_cons_zero, List.setIfInBounds_toArray, List.set_cons_succ, List.set_cons_zero]
            refine wpAnyH_take (i := 11) (v := undef) rfl (by kernel_rfl) (by kernel_rfl) (by kernel_rfl) (fun _ _ _ h => h) (Or.inr ⟨by kernel_rfl, rfl⟩) (by first | exact M.out | exact M.out.take 9) ?_
            try simp only [Act.put, List.getElem_toArray, List.getElem_cons_succ, List.getElem_cons_zero, List.setIfInBounds_toArray, List.set_cons_succ, List.set_cons_zero]
            refine wpAnyH_take (i := 12) (v := undef) rfl (by kernel_rfl) (by kernel_rfl) (by kernel_rfl) (fun _ _ _ h => h) (Or.inr ⟨by kernel_rfl, rfl⟩) (by first | exact M.out | exact M.out.take 9) ?_
            try simp only [Act.put, List.getElem_toArray, List.getElem_cons_succ, List.getElem_cons_zero, List.setIfInBounds_toArray, List.set_cons_succ, List.set_cons_zero]
            apply takeH (i := 13) 279 rfl (by kernel_rfl) (by kernel_rfl) (by kernel_rfl) (fun _ _ _ h => h) rfl (by first | exact M.out | exact M.out.take 9)
            case' hy =>
              refine Or.inl ⟨by first | rfl | (go_simp; done), ?_⟩
              intro w hS
              clear hS
              go_simp
              try with_reducible rfl
            try simp only [Act.put, List.getElem_toArray, List.getElem_cons_succ, List.getElem_cons_zero, List.setIfInBounds_toArray, List.set_cons_succ, List.set_cons_zero]
            apply takeH (i := 14) 280 rfl (by kernel_rfl) (by kernel_rfl) (by kernel_rfl) (fun _ _ _ h => h) rfl (by first | exact M.out | exact M.out.take 9)
            case' hy =>
              refine Or.inl ⟨by first | rfl | (go_simp; done), ?_⟩
              intro w hS
              clear hS
              go_simp
              try with_reducible rfl
            try simp only [Act.put, List.getElem_toArray, List.getElem_cons_succ, List.getElem_cons_zero, List.setIfInBounds_toArray, List.set_cons_succ, List.set_cons_zero]
            refine wpAnyH_done (by kernel_rfl) ?_ _
            all_goals
              go_wp2
              exact ⟨⟨k + 1, hlt, by go_num, M.out.take 9⟩, by simp [intOf]; omega⟩
          | true =>
            obtain rfl : hb = decide (least ≤ md) := by rw [hsc]; exact Bool.true_and _
            clear hsc
            cases hq : decide (least ≤ md)
            all_goals
              rw [hq] at HC_
              go_wp2
              refine region_anyH (fun w' => Mem w w' [.blk g5 29 F.cells, .row (.slice Bx xs.length cp) 60 3 xs.length (flat Scarecrow.vals xs), .row (.slice A2 xs.length c2) 60 3 xs.length (flat Scarecrow.vals xs), .blk g15 27 (ints .i16 MD), .blk g17 27 (ints .i16 MD), .blk g19 44 SC.cells, .blk g21 44 SC.cells, .row (.slice A7 X3.length c7) 60 3 X3.length (flat Scarecrow.vals X3), .row (.slice A8 X3.length c8) 60 3 X3.length (flat Scarecrow.vals X3)]) (by kernel_rfl) ?_
              have m := M.out.drew
              clear M
              have M := Lib.hid m
              clear m
              apply takeH (i := 0) 266 rfl (by kernel_rfl) (by kernel_rfl) (by kernel_rfl) (fun _ _ _ h => h) rfl (by first | exact M.out | exact M.out.take 9)
              case' hy => exact yldw _ _ rfl rfl Tryz.underlying44 rfl (by first | exact sz44 | (rw [S1.out]; exact sz44) | (rw [S2.out]; exact sz44) | (rw [S3.out]; exact sz44)) rfl (fun w' hS => hS.blk 6 rfl)
              try simp only [Act.put, List.getElem_toArray, List.getElem_cons_succ, List.getElem_cons_zero, List.setIfInBounds_toArray, List.set_cons_succ, List.set_cons_zero]
              apply takeH (i := 1) 267 rfl (by kernel_rfl) (by kernel_rfl) (by kernel_rfl) (fun _ _ _ h => h) rfl (by first | exact M.out | exact M.out.take 9)
              case' hy =>
                refine Or.inl ⟨by first | rfl | (go_simp; done), ?_⟩
                intro w hS
                clear hS
                go_simp
                try with_reducible rfl
              try simp only [Act.put, List.getElem_toArray, List.getElem_cons_succ, List.getElem_cons_zero, List.setIfInBounds_toArray, List.set_cons_succ, List.set_cons_zero]
              apply takeH (i := 3) 269 rfl (by kernel_rfl) (by kernel_rfl) (by kernel_rfl) (fun _ _ _ h => h) rfl (by first | exact M.out | exact M.out.take 9)
              case' hy => exact yldw _ _ rfl rfl Tryz.underlying29 rfl (by first | exact sz29 | (rw [S1.out]; exact sz29) | (rw [S2.out]; exact sz29) | (rw [S3.out]; exact sz29)) rfl (fun w' hS => hS.blk 0 rfl)
              try simp only [Act.put, List.getElem_toArray, List.getElem_cons_succ, List.getElem_cons_zero, List.setIfInBounds_toArray, List.set_cons_succ, List.set_cons_zero]
              apply takeH (i := 4) 270 rfl (by kernel_rfl) (by kernel_rfl) (by kernel_rfl) (fun _ _ _ h => h) rfl (by first | exact M.out | exact M.out.take 9)
              case' hy =>
                refine Or.inl ⟨by first | rfl | (go_simp; done), ?_⟩
                intro w hS
                clear hS
                go_simp
                try with_reducible rfl
              try simp only [Act.put, List.getElem_toArray, List.getElem_cons_succ, List.getElem_cons_zero, List.setIfInBounds_toArray, List.set_cons_succ, List.set_cons_zero]
              refine any1H 2 (by kernel_rfl) rfl (fun K hK => ?_)
              go_wp2_with (first | ((with_reducible refine gate_dst (N := 266) rfl ?_); go_must (refine M.out.ev_ldw 6 _ _ rfl rfl rfl Tryz.underlying44 rfl (by first | exact sz44 | (rw [S1.out]; exact sz44) | (rw [S2.out]; exact sz44) | (rw [S3.out]; exact sz44)) rfl ?_)) | ((with_reducible refine gate_dst (N := 269) rfl ?_); go_must (refine M.out.ev_ldw 0 _ _ rfl rfl rfl Tryz.underlying29 rfl (by first | exact sz29 | (rw [S1.out]; exact sz29) | (rw [S2.out]; exact sz29) | (rw [S3.out]; exact sz29)) rfl ?_)) | (go_at_call 22; go_must (refine (HC_.out _).mono ?_); rintro e w_ ⟨rfl, N_⟩; have m := M.out.join N_; clear N_; simp only [List.cons_append, List.nil_append, List.append_nil] at m; have M := Lib.hid m; clear m) | (go_at_call 23; go_must (refine (IS_.out _).mono ?_); rintro e w_ ⟨rfl, N_⟩; have m := M.out.join N_; clear N_; simp only [List.cons_append, List.nil_append, List.append_nil] at m; have M := Lib.hid m; clear m))
              refine onward_normal (hK _ _ ⟨(by first | exact M.out | exact M.out.take 9), ?_⟩)
              clear hK K
              try simp only [Act.put, List.getElem_toArray, List.getElem_cons_succ, List.getElem_cons_zero, List.setIfInBounds_toArray, List.set_cons_succ, List.set_cons_zero]
              refine any1H 5 (by kernel_rfl) rfl (fun K hK => ?_)
              go_wp2_with (first | ((with_reducible refine gate_dst (N := 266) rfl ?_); go_must (refine M.out.ev_ldw 6 _ _ rfl rfl rfl Tryz.underlying44 rfl (by first | exact sz44 | (rw [S1.out]; exact sz44) | (rw [S2.out]; exact sz44) | (rw [S3.out]; exact sz44)) rfl ?_)) | ((with_reducible refine gate_dst (N := 269) rfl ?_); go_must (refine M.out.ev_ldw 0 _ _ rfl rfl rfl Tryz.underlying29 rfl (by first | exact sz29 | (rw [S1.out]; exact sz29) | (rw [S2.out]; exact sz29) | (rw [S3.out]; exact sz29)) rfl ?_)) | (go_at_call 22; go_must (refine (HC_.out _).mono ?_); rintro e w_ ⟨rfl, N_⟩; have m := M.out.join N_; clear N_; simp only [List.cons_append, List.nil_append, List.append_nil] at m; have M := Lib.hid m; clear m) | (go_at_call 23; go_must (refine (IS_.out _).mono ?_); rintro e w_ ⟨rfl, N_⟩; have m := M.out.join N_; clear N_; simp only [List.cons_append, List.nil_append, List.append_nil] at m; have M := Lib.hid m; clear m))
              refine onward_normal (hK _ _ ⟨(by first | exact M.out | exact M.out.take 9), ?_⟩)
              clear hK K
              try simp only [Act.put, List.getElem_toArray, List.getElem_cons_succ, List.getElem_cons_zero, List.setIfInBounds_toArray, List.set_cons_succ, List.set_cons_zero]
              apply takeH (i := 6) 272 rfl (by kernel_rfl) (by kernel_rfl) (by kernel_rfl) (fun _ _ _ h => h) rfl (by first | exact M.out | exact M.out.take 9)
              case' hy =>
                refine Or.inl ⟨by first | rfl | (go_simp; done), ?_⟩
                intro w hS
                clear hS
                go_simp
                try with_reducible rfl
              try simp only [Act.put, List.getElem_toArray, List.getElem_cons_succ, List.getElem_cons_zero, List.setIfInBounds_toArray, List.set_cons_succ, List.set_cons_zero]
              apply takeH (i := 7) 273 rfl (by kernel_rfl) (by kernel_rfl) (by kernel_rfl) (fun _ _ _ h => h) rfl (by first | exact M.out | exact M.out.take 9)
              case' hy =>
                refine Or.inl ⟨by first | rfl | (go_simp; done), ?_⟩
                intro w hS
                clear hS
                go_simp
                try with_reducible rfl
              try simp only [Act.put, List.getElem_toArray, List.getElem_cons_succ, List.getElem_cons_zero, List.setIfInBounds_toArray, List.set_cons_succ, List.set_cons_zero]
              apply takeH (i := 8) 274 rfl (by kernel_rfl) (by kernel_rfl) (by kernel_rfl) (fun _ _ _ h => h) rfl (by first | exact M.out | exact M.out.take 9)
              case' hy =>
                refine Or.inl ⟨by first | rfl | (go_simp; done), ?_⟩
                intro w hS
                clear hS
                go_simp
                try with_reducible rfl
              try simp only [Act.put, List.getElem_toArray, List.getElem_cons_succ, List.getElem_cons_zero, List.setIfInBounds_toArray, List.set_cons_succ, List.set_cons_zero]
              apply takeH (i := 9) 275 rfl (by kernel_rfl) (by kernel_rfl) (by kernel_rfl) (fun _ _ _ h => h) rfl (by first | exact M.out | exact M.out.take 9)
              case' hy => exact yldsW _ _ rfl (by first | rfl | (go_simp; done)) Tryz.underlying26 rfl rfl (fun w' hS => hS.cell 4 rfl XK.out)
              try simp only [Act.put, List.getElem_toArray, List.getElem_cons_succ, List.getElem_cons_zero, List.setIfInBounds_toArray, List.set_cons_succ, List.set_cons_zero]
              apply takeH (i := 10) 276 rfl (by kernel_rfl) (by kernel_rfl) (by kernel_rfl) (fun _ _ _ h => h) rfl (by first | exact M.out | exact M.out.take 9)
              case' hy =>
                refine Or.inl ⟨by first | rfl | (go_simp; done), ?_⟩
                intro w hS
                clear hS
                go_simp
                try with_reducible rfl
              try simp only [Act.put, List.getElem_toArray, List.getElem_cons_succ, List.getElem_cons_zero, List.setIfInBounds_toArray, List.set_cons_succ, List.set_cons_zero]
              apply takeH (i := 11) 277 rfl (by kernel_rfl) (by kernel_rfl) (by kernel_rfl) (fun _ _ _ h => h) rfl (by first | exact M.out | exact M.out.take 9)
              case' hy =>
                refine Or.inl ⟨by first | rfl | (go_simp; done), ?_⟩
                intro w hS
                clear hS
                go_simp
                try with_reducible rfl
              try simp only [Act.put, List.getElem_toArray, List.getElem_cons_succ, List.getElem_cons_zero, List.setIfInBounds_toArray, List.set_cons_succ, List.set_cons_zero]
              apply takeH (i := 12) 278 rfl (by kernel_rfl) (by kernel_rfl) (by kernel_rfl) (fun _ _ _ h => h) rfl (by first | exact M.out | exact M.out.take 9)
              case' hy =>
                refine Or.inl ⟨by first | rfl | (go_simp; done), ?_⟩
                intro w hS
                clear hS
                go_simp
                try with_reducible rfl
              try simp only [Act.put, List.getElem_toArray, List.getElem_cons_succ, List.getElem_cons_zero, List.setIfInBounds_toArray, List.set_cons_succ, List.set_cons_zero]
              apply takeH (i := 13) 279 rfl (by kernel_rfl) (by kernel_rfl) (by kernel_rfl) (fun _ _ _ h => h) rfl (by first | exact M.out | exact M.out.take 9)
              case' hy =>
                refine Or.inl ⟨by first | rfl | (go_simp; done), ?_⟩
                intro w hS
                clear hS
                go_simp
                try with_reducible rfl
              try simp only [Act.put, List.getElem_toArray, List.getElem_cons_succ, List.getElem_cons_zero, List.setIfInBounds_toArray, List.set_cons_succ, List.set_cons_zero]
              apply takeH (i := 14) 280 rfl (by kernel_rfl) (by kernel_rfl) (by kernel_rfl) (fun _ _ _ h => h) rfl (by first | exact M.out | exact M.out.take 9)
              case' hy =>
                refine Or.inl ⟨by first | rfl | (go_simp; done), ?_⟩
                intro w hS
                clear hS
                go_simp
                try with_reducible rfl
              try simp only [Act.put, List.getElem_toArray, List.getElem_cons_succ, List.getElem_cons_zero, List.setIfInBounds_toArray, List.set_cons_succ, List.set_cons_zero]
              refine wpAnyH_done (by kernel_rfl) ?_ _
              all_goals
                go_wp2
                exact ⟨⟨k + 1, hlt, by go_num, M.out.take 9⟩, by simp [intOf]; omega⟩
        · as_aux_lemma =>
          obtain rfl : k = 100 := by omega
          have dnB := FC.out.dnB
          have d0 : decide ((dn : Int) < 0) = false := decide_eq_false (by omega)
          have d1 : decide ((30 : Int) < (dn : Int)) = false := decide_eq_false (by omega)
          clear hlt hk
          go_wp2_with (first
            | ((with_reducible refine gate_dst (N := 282) rfl ?_); go_must (refine M.out.ev_ldw 0 _ _ rfl rfl rfl Tryz.underlying29 rfl (by rw [S1.out]; exact sz29) rfl ?_))
            | ((with_reducible refine gate_dst (N := 290) rfl ?_); go_must (refine M.out.ev_ldw 0 _ _ rfl rfl rfl Tryz.underlying29 rfl (by rw [S1.out]; exact sz29) rfl ?_))
            | (go_at_call 24; go_must (refine (FC.out.dI _ _ _ (M.out.holdS 1 rfl)).mono ?_); rintro e w_ ⟨rfl, N_⟩; have m := M.out.join N_; clear N_; simp only [List.cons_append, List.nil_append, List.append_nil] at m; have M := Lib.hid m; clear m)
            | (go_at_call 25; go_must (refine (FC.out.dS _ _ _ (M.out.holdS 1 rfl)).mono ?_); rintro e w_ ⟨rfl, N_⟩; have m := M.out.join N_; clear N_; simp only [List.cons_append, List.nil_append, List.append_nil] at m; have M := Lib.hid m; clear m)
            )
          clear d0 d1
          go_loopw [38] (fun v wr => ∃ k : Nat, k ≤ dn + 1 ∧ v = .int .i64 k ∧ Mem w wr [.blk g5 29 F.cells, .row (.slice Bx xs.length cp) 60 3 xs.length (flat Scarecrow.vals xs), .row (.slice A2 xs.length c2) 60 3 xs.length (flat Scarecrow.vals xs), .blk g15 27 (ints .i16 MD), .blk g17 27 (ints .i16 MD), .blk g19 44 SC.cells, .blk g21 44 SC.cells, .row (.slice A7 X3.length c7) 60 3 X3.length (flat Scarecrow.vals X3), .row (.slice A8 X3.length c8) 60 3 X3.length (flat Scarecrow.vals X3)])
            (fun v _ => dn + 1 - (intOf v).toNat)
          case atStart => exact ⟨0, by omega, rfl, M.out.take 9⟩
          case round =>
            clear M
            obtain ⟨k, hk, rfl, m⟩ := hrel
            have M := Lib.hid m
            clear m
            by_cases hlt : k ≤ dn
            · as_aux_lemma =>
              have hdl := FC.out.dnl k hlt
              have FAk := Lib.hid (fun A n w h => FC.out.fA k A n w h)
              have AIk := Lib.hid (fun A n w h => FC.out.aI k (by omega) A n w h)
              obtain ⟨XK, hXK⟩ : ∃ X, X = agedAll xs k := ⟨_, rfl⟩
              have xkl : XK.length ≤ 4 := (by rw [hXK]; unfold agedAll; rw [List.length_map]; exact FC.out.xl)
              obtain ⟨ow, how⟩ : ∃ x, x = fearAt XK c := ⟨_, rfl⟩
              rw [← hXK] at hdl FAk AIk
              rw [← how] at hdl FAk
              have k0 : (0 : Int) ≤ (k : Int) := by omega
              have k1 : (k : Int) ≤ (dn : Int) := by omega
              clear hXK how
              cases hq : decide (k < dn)
              all_goals
                rw [hq] at hdl
                go_wp2_with (first
                  | ((with_reducible refine gate_dst (N := 323) rfl ?_); go_must (refine M.out.ev_ldw 0 _ _ rfl rfl rfl Tryz.underlying29 rfl (by rw [S1.out]; exact sz29) rfl ?_))
                  | ((with_reducible refine gate_dst (N := 330) rfl ?_); go_must (refine M.out.ev_ldw 0 _ _ rfl rfl rfl Tryz.underlying29 rfl (by rw [S1.out]; exact sz29) rfl ?_))
                  | (go_at_call 17; go_must (refine (AIk.out _ _ _ (M.out.holdS 1 rfl)).mono ?_); rintro e w_ ⟨A_, c_, rfl, hc_, N_⟩; have m := M.out.join N_; clear N_; simp only [List.cons_append, List.nil_append, List.append_nil] at m; have M := Lib.hid m; clear m)
                  | (go_at_call 11; go_must (refine (FAk.out _ _ _ (M.out.holdS 9 rfl)).mono ?_); rintro e w_ ⟨rfl, N_⟩; have m := M.out.join N_; clear N_; simp only [List.cons_append, List.nil_append, List.append_nil] at m; have M := Lib.hid m; clear m)
                  )
                exact ⟨⟨k + 1, by omega, by go_num, M.out.take 9⟩, by simp [intOf]; omega⟩
            · as_aux_lemma =>
              obtain rfl : k = dn + 1 := by omega
              have k1 : ¬ (((dn + 1 : Nat) : Int) ≤ (dn : Int)) := by omega
              have k2 : ¬ ((dn : Int) + 1 ≤ (dn : Int)) := by omega
              have k3 : ¬ (dn + 1 ≤ dn) := by omega
              have l0 : decide (lg < 1) = false := decide_eq_false (by have := FC.out.lgB; omega)
              have usl := FC.out.usl
              clear hk hlt
              go_wp2_with (first
                | ((with_reducible refine gate_dst (N := 352) rfl ?_); go_must (refine M.out.ev_ldw 0 _ _ rfl rfl rfl Tryz.underlying29 rfl (by rw [S1.out]; exact sz29) rfl ?_))
                | ((with_reducible refine gate_dst (N := 359) rfl ?_); go_must (refine M.out.ev_ldw 0 _ _ rfl rfl rfl Tryz.underlying29 rfl (by rw [S1.out]; exact sz29) rfl ?_))
                | ((with_reducible refine gate_dst (N := 366) rfl ?_); go_must (refine M.out.ev_ldw 0 _ _ rfl rfl rfl Tryz.underlying29 rfl (by rw [S1.out]; exact sz29) rfl ?_))
                | ((with_reducible refine gate_dst (N := 395) rfl ?_); go_must (refine M.out.ev_ldw 0 _ _ rfl rfl rfl Tryz.underlying29 rfl (by rw [S1.out]; exact sz29) rfl ?_))
                | ((with_reducible refine gate_dst (N := 398) rfl ?_); go_must (refine M.out.ev_ldw 0 _ _ rfl rfl rfl Tryz.underlying29 rfl (by rw [S1.out]; exact sz29) rfl ?_))
                | ((with_reducible refine gate_dst (N := 405) rfl ?_); go_must (refine M.out.ev_ldw 0 _ _ rfl rfl rfl Tryz.underlying29 rfl (by rw [S1.out]; exact sz29) rfl ?_))
                | ((with_reducible refine gate_dst (N := 368) rfl ?_); go_must (refine M.out.ev_ldw 6 _ _ rfl rfl rfl Tryz.underlying44 rfl (by rw [SS.out]; exact sz44) rfl ?_))
                | (go_at_call 26; go_must (refine (FC.out.uI _ _ _ (M.out.holdS 1 rfl)).mono ?_); rintro e w_ ⟨A9, c9, rfl, hc9, N_⟩; have m := M.out.join N_; clear N_; simp only [List.cons_append, List.nil_append, List.append_nil] at m; have M := Lib.hid m; clear m)
                | (go_at_call 27; go_must (refine (FC.out.uS _ _ _ (M.out.holdS 1 rfl)).mono ?_); rintro e w_ ⟨A10, c10, rfl, hc10, N_⟩; have m := M.out.join N_; clear N_; simp only [List.cons_append, List.nil_append, List.append_nil] at m; have M := Lib.hid m; clear m)
                | (go_at_call 28; go_must (refine (FC.out.lI _ _ _ (M.out.holdS 1 rfl)).mono ?_); rintro e w_ ⟨rfl, N_⟩; have m := M.out.join N_; clear N_; simp only [List.cons_append, List.nil_append, List.append_nil] at m; have M := Lib.hid m; clear m)
                | (go_at_call 29; go_must (refine (SameNats_any _ _ _ _ us _ (by omega) (M.out.slof 9 rfl) (M.out.slof 10 rfl)).mono ?_); rintro e w_ ⟨rfl, N_⟩; have m := M.out.join N_; clear N_; simp only [List.cons_append, List.nil_append, List.append_nil] at m; have M := Lib.hid m; clear m)
                | (go_at_call 7; go_must (refine (P6Cell_any A na bs YB.out F FD.out _ (M.out.sl HS.out)).mono ?_); rintro e w_ ⟨t, rfl, ht, hth, N_⟩; have m := M.out.join N_; clear N_; simp only [List.cons_append, List.nil_append, List.append_nil] at m; have M := Lib.hid m; clear m; obtain ⟨R, cd, hg, hAC⟩ := add_calls F FD.out xs HX.out c hc HCH.out t ht hth; have AC := Lib.hid hAC; have rl := hAC.Rl; have K := hAC.kase; clear hAC; rcases K with ⟨rfl, hRl, hgt⟩ | rfl)
                )
              · as_aux_lemma =>
                have q5 : ((R.length : Int) != (xs.length : Int) + 1) = false := by simp [hRl]
                have q6 : decide (hg < du) = false := decide_eq_false (by rw [DU.out]; omega)
                have q7 : IntKind.i64.wrap ((xs.length : Int) + 1) = (xs.length : Int) + 1 := IntWalk.i64_in _ (by omega)
                have hgI := Lib.hid (fun A n w h => AC.out.hI rfl A n w h)
                clear hRl hgt
                by_cases hx0 : xs.length = 0
                · as_aux_lemma =>
                  have e0 : ((xs.length : Int) == 0) = true := by rw [hx0]; rfl
                  clear hx0
                  go_wp2_with (first
                    | ((with_reducible refine gate_dst (N := 398) rfl ?_); go_must (refine M.out.ev_ldw 0 _ _ rfl rfl rfl Tryz.underlying29 rfl (by rw [S1.out]; exact sz29) rfl ?_))
                    | ((with_reducible refine gate_dst (N := 405) rfl ?_); go_must (refine M.out.ev_ldw 0 _ _ rfl rfl rfl Tryz.underlying29 rfl (by rw [S1.out]; exact sz29) rfl ?_))
                    | ((with_reducible refine gate_dst (N := 423) rfl ?_); go_must (refine M.out.ev_ldw 0 _ _ rfl rfl rfl Tryz.underlying29 rfl (by rw [S1.out]; exact sz29) rfl ?_))
                    | (go_at_call 30; go_must (refine (AC.out.aI _ _ _ (M.out.holdS 1 rfl)).mono ?_); rintro e w_ ⟨A11, c11, rfl, hc11, N_⟩; have m := M.out.join N_; clear N_; simp only [List.cons_append, List.nil_append, List.append_nil] at m; have M := Lib.hid m; clear m)
                    | (go_at_call 31; go_must (refine (AC.out.aS _ _ _ (M.out.holdS 1 rfl)).mono ?_); rintro e w_ ⟨A12, c12, rfl, hc12, N_⟩; have m := M.out.join N_; clear N_; simp only [List.cons_append, List.nil_append, List.append_nil] at m; have M := Lib.hid m; clear m)
                    | (go_at_call 11; go_must (refine (hgI.out _ _ _ (M.out.holdS 12 rfl)).mono ?_); rintro e w_ ⟨rfl, N_⟩; have m := M.out.join N_; clear N_; simp only [List.cons_append, List.nil_append, List.append_nil] at m; have M := Lib.hid m; clear m)
                    | (go_at_call 19; go_must (first | (refine Calls.mono (calls_args (by with_reducible rfl) (ScarecrowSame_any _ _ _ _ R _ (by omega) (M.out.slof 11 rfl) (M.out.slof 12 rfl))) ?_; rintro e w_ ⟨rfl, N_⟩; have m := M.out.join N_; clear N_; simp only [List.cons_append, List.nil_append, List.append_nil] at m; have M := Lib.hid m; clear m)))
                    )
                  go_ret
                  exact ⟨rfl, M.out.take 0⟩
                · as_aux_lemma =>
                  have e0 : ((xs.length : Int) == 0) = false := by simpa using hx0
                  have e1 := Lib.hid (show 0 < xs.length by omega)
                  clear hx0
                  go_wp2_with (first
                    | ((with_reducible refine gate_dst (N := 398) rfl ?_); go_must (refine M.out.ev_ldw 0 _ _ rfl rfl rfl Tryz.underlying29 rfl (by rw [S1.out]; exact sz29) rfl ?_))
                    | ((with_reducible refine gate_dst (N := 405) rfl ?_); go_must (refine M.out.ev_ldw 0 _ _ rfl rfl rfl Tryz.underlying29 rfl (by rw [S1.out]; exact sz29) rfl ?_))
                    | ((with_reducible refine gate_dst (N := 423) rfl ?_); go_must (refine M.out.ev_ldw 0 _ _ rfl rfl rfl Tryz.underlying29 rfl (by rw [S1.out]; exact sz29) rfl ?_))
                    | (go_at_call 30; go_must (refine (AC.out.aI _ _ _ (M.out.holdS 1 rfl)).mono ?_); rintro e w_ ⟨A11, c11, rfl, hc11, N_⟩; have m := M.out.join N_; clear N_; simp only [List.cons_append, List.nil_append, List.append_nil] at m; have M := Lib.hid m; clear m)
                    | (go_at_call 31; go_must (refine (AC.out.aS _ _ _ (M.out.holdS 1 rfl)).mono ?_); rintro e w_ ⟨A12, c12, rfl, hc12, N_⟩; have m := M.out.join N_; clear N_; simp only [List.cons_append, List.nil_append, List.append_nil] at m; have M := Lib.hid m; clear m)
                    | (go_at_call 11; go_must (refine (hgI.out _ _ _ (M.out.holdS 12 rfl)).mono ?_); rintro e w_ ⟨rfl, N_⟩; have m := M.out.join N_; clear N_; simp only [List.cons_append, List.nil_append, List.append_nil] at m; have M := Lib.hid m; clear m)
                    | (go_at_call 8; go_must (refine (P6Pick_any B nb cs YC.out xs.length (by omega) _ (M.out.sl HT.out)).mono ?_); rintro e w_ ⟨r2, rfl, r0, r1, N_⟩; have m := M.out.join N_; clear N_; simp only [List.cons_append, List.nil_append, List.append_nil] at m; have M := Lib.hid m; clear m; obtain ⟨ix, rfl⟩ : ∃ n : Nat, r2 = (n : Int) := ⟨r2.toNat, by omega⟩; have ixl : ix < xs.length := (by have := e1.out; omega); obtain ⟨V, hVl, hVp, hvI, hvS⟩ := AC.out.mv ix ixl; have VI := Lib.hid hvI; have VS := Lib.hid hvS; clear r0 r1 hvI hvS; obtain ⟨p, hp⟩ := hVp rfl; have HV := Lib.hid hp; have ixv : ix < V.length := (List.getElem?_eq_some_iff.1 hp).1; have x9 : (0 : Int) ≤ (ix : Int) := (by omega); have x8 : (ix : Int) < (V.length : Int) := (by omega); have x7 : IntKind.i64.wrap (t : Int) = (t : Int) := IntWalk.i64_in _ (by omega); clear hp hVp)
                    | ((with_reducible refine gate_dst (N := 454) rfl ?_); go_must (refine M.out.ev_ldw 0 _ _ rfl rfl rfl Tryz.underlying29 rfl (by rw [S1.out]; exact sz29) rfl ?_))
                    | ((with_reducible refine gate_dst (N := 462) rfl ?_); go_must (refine M.out.ev_ldw 0 _ _ rfl rfl rfl Tryz.underlying29 rfl (by rw [S1.out]; exact sz29) rfl ?_))
                    | (go_at_call 32; go_must (refine (VI.out _ _ _ (M.out.holdS 1 rfl)).mono ?_); rintro e w_ ⟨A13, c13, rfl, hc13, N_⟩; have m := M.out.join N_; clear N_; simp only [List.cons_append, List.nil_append, List.append_nil] at m; have M := Lib.hid m; clear m)
                    | (go_at_call 33; go_must (refine (VS.out _ _ _ (M.out.holdS 1 rfl)).mono ?_); rintro e w_ ⟨A14, c14, rfl, hc14, N_⟩; have m := M.out.join N_; clear N_; simp only [List.cons_append, List.nil_append, List.append_nil] at m; have M := Lib.hid m; clear m; obtain ⟨b, off, rfl, hr⟩ := (M.out.slof 14 rfl).2 (by omega); clear hr)
                    | (go_at_call 19; go_must (first | (refine Calls.mono (calls_args (by with_reducible rfl) (ScarecrowSame_any _ _ _ _ R _ (by omega) (M.out.slof 11 rfl) (M.out.slof 12 rfl))) ?_; rintro e w_ ⟨rfl, N_⟩; have m := M.out.join N_; clear N_; simp only [List.cons_append, List.nil_append, List.append_nil] at m; have M := Lib.hid m; clear m) | (refine Calls.mono (calls_args (by with_reducible rfl) (ScarecrowSame_any _ _ _ _ V _ (by omega) (M.out.slof 13 rfl) (M.out.slof 14 rfl))) ?_; rintro e w_ ⟨rfl, N_⟩; have m := M.out.join N_; clear N_; simp only [List.cons_append, List.nil_append, List.append_nil] at m; have M := Lib.hid m; clear m; have x0 : w_.cell? ⟨b, off + ix * 3 + 2, none⟩ = some (.int .i8 0) := (range_at Scarecrow.vl (sl_rangeScarecrow (M.out.slof 14 rfl) ixv) HV.out) 2 _ rfl; have x1 : w_.cell? ⟨b, off + ix * 3, none⟩ = some (.int .i16 (t : Int)) := (range_at Scarecrow.vl (sl_rangeScarecrow (M.out.slof 14 rfl) ixv) HV.out) 0 _ rfl)))
                    )
                  go_ret
                  exact ⟨rfl, M.out.take 0⟩
              · as_aux_lemma =>
                by_cases hx0 : xs.length = 0
                · as_aux_lemma =>
                  have e0 : ((xs.length : Int) == 0) = true := by rw [hx0]; rfl
                  clear hx0
                  go_wp2_with (first
                    | ((with_reducible refine gate_dst (N := 398) rfl ?_); go_must (refine M.out.ev_ldw 0 _ _ rfl rfl rfl Tryz.underlying29 rfl (by rw [S1.out]; exact sz29) rfl ?_))
                    | ((with_reducible refine gate_dst (N := 405) rfl ?_); go_must (refine M.out.ev_ldw 0 _ _ rfl rfl rfl Tryz.underlying29 rfl (by rw [S1.out]; exact sz29) rfl ?_))
                    | ((with_reducible refine gate_dst (N := 423) rfl ?_); go_must (refine M.out.ev_ldw 0 _ _ rfl rfl rfl Tryz.underlying29 rfl (by rw [S1.out]; exact sz29) rfl ?_))
                    | (go_at_call 30; go_must (refine (AC.out.aI _ _ _ (M.out.holdS 1 rfl)).mono ?_); rintro e w_ ⟨A11, c11, rfl, hc11, N_⟩; have m := M.out.join N_; clear N_; simp only [List.cons_append, List.nil_append, List.append_nil] at m; have M := Lib.hid m; clear m)
                    | (go_at_call 31; go_must (refine (AC.out.aS _ _ _ (M.out.holdS 1 rfl)).mono ?_); rintro e w_ ⟨A12, c12, rfl, hc12, N_⟩; have m := M.out.join N_; clear N_; simp only [List.cons_append, List.nil_append, List.append_nil] at m; have M := Lib.hid m; clear m)
                    | (go_at_call 19; go_must (first | (refine Calls.mono (calls_args (by with_reducible rfl) (ScarecrowSame_any _ _ _ _ R _ (by omega) (M.out.slof 11 rfl) (M.out.slof 12 rfl))) ?_; rintro e w_ ⟨rfl, N_⟩; have m := M.out.join N_; clear N_; simp only [List.cons_append, List.nil_append, List.append_nil] at m; have M := Lib.hid m; clear m)))
                    )
                  go_ret
                  exact ⟨rfl, M.out.take 0⟩
                · as_aux_lemma =>
                  have e0 : ((xs.length : Int) == 0) = false := by simpa using hx0
                  have e1 := Lib.hid (show 0 < xs.length by omega)
                  clear hx0
                  go_wp2_with (first
                    | ((with_reducible refine gate_dst (N := 398) rfl ?_); go_must (refine M.out.ev_ldw 0 _ _ rfl rfl rfl Tryz.underlying29 rfl (by rw [S1.out]; exact sz29) rfl ?_))
                    | ((with_reducible refine gate_dst (N := 405) rfl ?_); go_must (refine M.out.ev_ldw 0 _ _ rfl rfl rfl Tryz.underlying29 rfl (by rw [S1.out]; exact sz29) rfl ?_))
                    | ((with_reducible refine gate_dst (N := 423) rfl ?_); go_must (refine M.out.ev_ldw 0 _ _ rfl rfl rfl Tryz.underlying29 rfl (by rw [S1.out]; exact sz29) rfl ?_))
                    | (go_at_call 30; go_must (refine (AC.out.aI _ _ _ (M.out.holdS 1 rfl)).mono ?_); rintro e w_ ⟨A11, c11, rfl, hc11, N_⟩; have m := M.out.join N_; clear N_; simp only [List.cons_append, List.nil_append, List.append_nil] at m; have M := Lib.hid m; clear m)
                    | (go_at_call 31; go_must (refine (AC.out.aS _ _ _ (M.out.holdS 1 rfl)).mono ?_); rintro e w_ ⟨A12, c12, rfl, hc12, N_⟩; have m := M.out.join N_; clear N_; simp only [List.cons_append, List.nil_append, List.append_nil] at m; have M := Lib.hid m; clear m)
                    | (go_at_call 8; go_must (refine (P6Pick_any B nb cs YC.out xs.length (by omega) _ (M.out.sl HT.out)).mono ?_); rintro e w_ ⟨r2, rfl, r0, r1, N_⟩; have m := M.out.join N_; clear N_; simp only [List.cons_append, List.nil_append, List.append_nil] at m; have M := Lib.hid m; clear m; obtain ⟨ix, rfl⟩ : ∃ n : Nat, r2 = (n : Int) := ⟨r2.toNat, by omega⟩; have ixl : ix < xs.length := (by have := e1.out; omega); obtain ⟨V, hVl, hVp, hvI, hvS⟩ := AC.out.mv ix ixl; have VI := Lib.hid hvI; have VS := Lib.hid hvS; clear r0 r1 hvI hvS; clear hVp)
                    | ((with_reducible refine gate_dst (N := 454) rfl ?_); go_must (refine M.out.ev_ldw 0 _ _ rfl rfl rfl Tryz.underlying29 rfl (by rw [S1.out]; exact sz29) rfl ?_))
                    | ((with_reducible refine gate_dst (N := 462) rfl ?_); go_must (refine M.out.ev_ldw 0 _ _ rfl rfl rfl Tryz.underlying29 rfl (by rw [S1.out]; exact sz29) rfl ?_))
                    | (go_at_call 32; go_must (refine (VI.out _ _ _ (M.out.holdS 1 rfl)).mono ?_); rintro e w_ ⟨A13, c13, rfl, hc13, N_⟩; have m := M.out.join N_; clear N_; simp only [List.cons_append, List.nil_append, List.append_nil] at m; have M := Lib.hid m; clear m)
                    | (go_at_call 33; go_must (refine (VS.out _ _ _ (M.out.holdS 1 rfl)).mono ?_); rintro e w_ ⟨A14, c14, rfl, hc14, N_⟩; have m := M.out.join N_; clear N_; simp only [List.cons_append, List.nil_append, List.append_nil] at m; have M := Lib.hid m; clear m)
                    | (go_at_call 19; go_must (first | (refine Calls.mono (calls_args (by with_reducible rfl) (ScarecrowSame_any _ _ _ _ R _ (by omega) (M.out.slof 11 rfl) (M.out.slof 12 rfl))) ?_; rintro e w_ ⟨rfl, N_⟩; have m := M.out.join N_; clear N_; simp only [List.cons_append, List.nil_append, List.append_nil] at m; have M := Lib.hid m; clear m) | (refine Calls.mono (calls_args (by with_reducible rfl) (ScarecrowSame_any _ _ _ _ V _ (by omega) (M.out.slof 13 rfl) (M.out.slof 14 rfl))) ?_; rintro e w_ ⟨rfl, N_⟩; have m := M.out.join N_; clear N_; simp only [List.cons_append, List.nil_append, List.append_nil] at m; have M := Lib.hid m; clear m)))
                    )
                  go_ret
                  exact ⟨rfl, M.out.take 0⟩
end Go.Proofs.YtoacnfofijikmaaGreatDoor
