/- Texts of a proof, laid together: SplitF. -/
import Derived.Test.YtlonbgomdabmmaaZF14
import Derived.Test.YtlonbgomdabmmaaZF05
import Derived.Test.YtlonbgomdabmmaaZF09
namespace Go.Proofs.Ytlonbgomdabmmaa
set_option linter.unusedSimpArgs false
set_option linter.unusedVariables false
open Go.RowKit
attribute [local go_sem] cell?_mk frozen?_mk

def spFine (xs : List Flock) (i b : Int) : Bool := match xs[i.toNat]? with | some x => inB b 0 x.birds | none => false
def spCode (F : Fld) (xs : List Flock) (i b : Int) : Int := if flCode F xs i (spFine xs i b) ≠ 0 then flCode F xs i (spFine xs i b) else if xs.length = 12 then 3 else 0
def spAt (xs : List Flock) (j : Nat) (b : Int) : List Flock := match xs[j]? with | some x => xs.set j { x with birds := x.birds - b } ++ [{ x with birds := b }] | none => []
def spRes (F : Fld) (xs : List Flock) (i b : Int) : List Flock := if spCode F xs i b = 0 then spAt xs i.toNat b else []
theorem sp_list {xs : List Flock} {j : Nat} (hj : j < xs.length) (b : Int) : ((xs ++ [xs[j]]).set j { xs[j] with birds := xs[j].birds - b }).set xs.length { xs[j] with birds := b } = spAt xs j b := by
  have h : xs[j]? = some xs[j] := List.getElem?_eq_getElem hj
  have h2 : spAt xs j b = xs.set j { xs[j] with birds := xs[j].birds - b } ++ [{ xs[j] with birds := b }] := by simp [spAt, h]
  rw [h2, List.set_append_left _ _ hj, List.set_append_right _ _ (by simp), List.length_set, Nat.sub_self]
  rfl
theorem sp_flat {xs : List Flock} {j : Nat} (hj : j < xs.length) (b : Int) : ((flat Flock.vals xs ++ xs[j].vals).set (j * 6 + 1) (.int .i16 (xs[j].birds - b))).set (xs.length * 6 + 1) (.int .i16 b) = flat Flock.vals (spAt xs j b) := by
  have h : (xs ++ [xs[j]])[j]? = some xs[j] := by rw [List.getElem?_append_left hj]; exact List.getElem?_eq_getElem hj
  have h1 := flat_put Flock.vl (by decide : 1 < 6) (v := .int .i16 (xs[j].birds - b)) (xs ++ [xs[j]]) j xs[j] { xs[j] with birds := xs[j].birds - b } h rfl
  have h2 := flat_put Flock.vl (by decide : 1 < 6) (v := .int .i16 b) ((xs ++ [xs[j]]).set j { xs[j] with birds := xs[j].birds - b }) xs.length xs[j] { xs[j] with birds := b } (by rw [List.getElem?_set_ne (by omega), List.getElem?_append_right (Nat.le_refl _), Nat.sub_self]; rfl) rfl
  rw [← sp_list hj, ← h2, ← h1, flat_snoc]
set_option maxRecDepth 100000 in
set_option maxHeartbeats 1000000 in
theorem spIs_any (g h k : Nat) {t t' t'' : TypeId} (A : Option Addr) (n : Nat) (F : Fld) (xs : List Flock) (hx : ∀ x ∈ xs, x.ok) (hl : xs.length ≤ 1048576) (i b : Int) (hq : flIdx F xs i = true) (w : World) (h1 : Blk w g t #[.int .i64 b]) (h2 : Blk w h t' #[.slice A xs.length n]) (h3 : Blk w k t'' #[.int .i64 i]) (hs : Sl w 6 A xs.length (flat Flock.vals xs)) :
    Calls Try.prog 54 #[.pointer (some ⟨g, 0, none⟩), .pointer (some ⟨h, 0, none⟩), .pointer (some ⟨k, 0, none⟩)] w fun e w' => e = .returned (.bool (spFine xs i b)) ∧ Mem w w' [] := by
  have M := Lib.hid (Mem.start w)
  have y1 := h1.cellv (i := 0) rfl
  have y2 := h2.cellv (i := 0) rfl
  have y3 := h3.cellv (i := 0) rfl
  rw [flIdx, Bool.and_eq_true] at hq
  obtain ⟨p0, p1⟩ := inB_iff.1 hq.2
  obtain ⟨j, rfl⟩ : ∃ j : Nat, i = j := ⟨i.toNat, by omega⟩
  have hj : j < xs.length := by omega
  have i0 : (0 : Int) ≤ (j : Int) := by omega
  have i1 : (j : Int) < (xs.length : Int) := by omega
  obtain ⟨b', off, rfl, hr⟩ := hs.2 (by omega)
  have hxj : xs[j]? = some xs[j] := List.getElem?_eq_getElem hj
  have y4 : w.cell? ⟨b', off + j * 6 + 1, none⟩ = some (.int .i16 xs[j].birds) := range_at Flock.vl hr hxj 1 _ rfl
  obtain ⟨o0, o1⟩ := (hx xs[j] (List.getElem_mem hj)).birds
  have e1 : IntKind.i64.wrap xs[j].birds = xs[j].birds := IntWalk.i64_in _ (by omega)
  have HR := Lib.hid (show spFine xs j b = inB b 0 xs[j].birds by simp [spFine, hxj])
  clear h1 h2 h3 hs hr hxj hx hq
  go_enter Try.func54, Try.ntmps54
  go_wp2_with fail
  go_quiet ((refine Calls.quiet_of_same (v := .bool (inB b 0 xs[j].birds)) ?_; exact (within_any _ _ _ _).mono fun _ _ h => ⟨h.1, h.2.symm⟩))
  have M := Lib.hid (M.out.drewN nq)
  go_wp2
  go_ret
  exact ⟨ret_bool (by rw [HR.out]), M.out⟩
set_option maxRecDepth 100000 in
set_option maxHeartbeats 4000000 in
theorem impl_SplitFlock_any (F : Fld) (hF : F.ok) (A : Option Addr) (n : Nat) (xs : List Flock) (hx : ∀ x ∈ xs, x.ok) (hl : xs.length ≤ 1048576) (hc : xs.length ≤ n) (hn : n ≤ 9223372036854775807) (hA : A = none → n = 0) (i b : Int) (w : World) (hs : Sl w 6 A xs.length (flat Flock.vals xs)) :
    Calls Try.prog 25 #[.agg F.cells, .slice A xs.length n, .int .i64 i, .int .i64 b] w (RetRowC w 48 6 (spRes F xs i b).length (flat Flock.vals (spRes F xs i b)) (spCode F xs i b)) := by
  have M := Lib.hid (Mem.start w)
  have HX := Lib.hid hx
  have HS := Lib.hid hs
  have HF := Lib.hid hF
  have S1 := Lib.hid (Fld.size hF.toLen)
  clear hx hs hF
  by_cases hd : flCode F xs i (spFine xs i b) = 0
  · obtain ⟨h1, h2, h3, h4⟩ := flCode_0 hd
    have HD := Lib.hid hd
    obtain ⟨p0, p1⟩ := inB_iff.1 h3
    obtain ⟨j, rfl⟩ : ∃ j : Nat, i = j := ⟨i.toNat, by omega⟩
    have hj : j < xs.length := by omega
    have i0 : (0 : Int) ≤ (j : Int) := by omega
    have i1 : (j : Int) < (xs.length : Int) := by omega
    have i2 : (0 : Int) ≤ (xs.length : Int) := by omega
    have i3 : (j : Int) < (xs.length : Int) + 1 := by omega
    have i4 : (xs.length : Int) < (xs.length : Int) + 1 := by omega
    have i5 : (j : Int) ≤ (xs.length : Int) := by omega
    have i8 : j < xs.length + 1 := by omega
    have i9 : j ≤ xs.length := by omega
    have i6 : (j : Int) < ((xs.length + 1 : Nat) : Int) := by omega
    have i7 : (xs.length : Int) < ((xs.length + 1 : Nat) : Int) := by omega
    have hxj : xs[j]? = some xs[j] := List.getElem?_eq_getElem hj
    obtain ⟨b', off, rfl, hr⟩ := HS.out.2 (by omega)
    have R := Lib.hid (range_at Flock.vl hr hxj)
    obtain ⟨o0, o1⟩ := (HX.out xs[j] (List.getElem_mem hj)).birds
    have hq : inB b 0 xs[j].birds = true := by simpa [spFine, hxj] using h4
    obtain ⟨q0, q1⟩ := inB_iff.1 hq
    have e1 : IntKind.i16.wrap b = b := IntWalk.i16_in _ (by omega)
    have e2 : IntKind.i16.wrap (xs[j].birds - b) = xs[j].birds - b := IntWalk.i16_in _ (by omega)
    have HL := Lib.hid (flat_len Flock.vl xs)
    clear h1 h2 h3 h4 hd hxj hq hr
    by_cases h12 : xs.length = 12
    · have H12 := Lib.hid h12
      have hb12 : ((xs.length : Int) == 12) = true := by simp [h12]
      clear h12
      go_enter Try.func25, Try.ntmps25
      go_wp2_with (first
        | ((with_reducible refine gate_dst (N := 4) rfl ?_); go_must (refine M.out.ev_new rfl (by first | (go_simp; done) | (go_simp; rfl)) ?_); intro g4 w4 m; simp only [List.cons_append, List.nil_append] at m; have M := Lib.hid m; clear m; try have q1_0 := M.out.cell (j := 0) 1 rfl (by first | assumption | rfl); try have q2_0 := M.out.cell (j := 0) 2 rfl (by first | assumption | rfl); try have q3_0 := M.out.cell (j := 0) 3 rfl (by first | assumption | rfl))
        | ((with_reducible refine gate_dst (N := 5) rfl ?_); go_must (refine M.out.ev_new rfl (by first | (go_simp; done) | (go_simp; rfl)) ?_); intro g5 w5 m; simp only [List.cons_append, List.nil_append] at m; have M := Lib.hid m; clear m; try have q1_0 := M.out.cell (j := 0) 1 rfl (by first | assumption | rfl); try have q2_0 := M.out.cell (j := 0) 2 rfl (by first | assumption | rfl); try have q3_0 := M.out.cell (j := 0) 3 rfl (by first | assumption | rfl))
        | ((with_reducible refine gate_dst (N := 6) rfl ?_); go_must (refine M.out.ev_new rfl (by first | (go_simp; done) | (go_simp; rfl)) ?_); intro g6 w6 m; simp only [List.cons_append, List.nil_append] at m; have M := Lib.hid m; clear m; try have q1_0 := M.out.cell (j := 0) 1 rfl (by first | assumption | rfl); try have q2_0 := M.out.cell (j := 0) 2 rfl (by first | assumption | rfl); try have q3_0 := M.out.cell (j := 0) 3 rfl (by first | assumption | rfl))
        | ((with_reducible refine gate_dst (N := 7) rfl ?_); go_must (refine M.out.ev_new rfl (by first | (go_simp; done) | (go_simp; rfl)) ?_); intro g7 w7 m; simp only [List.cons_append, List.nil_append] at m; have M := Lib.hid m; clear m; try have q1_0 := M.out.cell (j := 0) 1 rfl (by first | assumption | rfl); try have q2_0 := M.out.cell (j := 0) 2 rfl (by first | assumption | rfl); try have q3_0 := M.out.cell (j := 0) 3 rfl (by first | assumption | rfl))
        | ((with_reducible refine gate_dst (N := 12) rfl ?_); go_must (refine M.out.ev_ld 1 _ _ rfl rfl rfl Try.underlying33 rfl rfl (by first | assumption | rfl) ?_))
        | ((with_reducible refine gate_dst (N := 13) rfl ?_); go_must (refine M.out.ev_ld 2 _ _ rfl rfl rfl Try.underlying2 rfl rfl (by first | assumption | rfl) ?_))
        | ((with_reducible refine gate_dst (N := 21) rfl ?_); go_must (refine M.out.ev_ld 1 _ _ rfl rfl rfl Try.underlying33 rfl rfl (by first | assumption | rfl) ?_))
        | ((with_reducible refine gate_dst (N := 24) rfl ?_); go_must (refine M.out.ev_ld 1 _ _ rfl rfl rfl Try.underlying33 rfl rfl (by first | assumption | rfl) ?_))
        | ((with_reducible refine gate_dst (N := 26) rfl ?_); go_must (refine M.out.ev_ld 1 _ _ rfl rfl rfl Try.underlying33 rfl rfl (by first | assumption | rfl) ?_))
        | ((with_reducible refine gate_dst (N := 27) rfl ?_); go_must (refine M.out.ev_ld 2 _ _ rfl rfl rfl Try.underlying2 rfl rfl (by first | assumption | rfl) ?_))
        | ((with_reducible refine gate_dst (N := 33) rfl ?_); go_must (refine M.out.ev_ld 2 _ _ rfl rfl rfl Try.underlying2 rfl rfl (by first | assumption | rfl) ?_))
        | ((with_reducible refine gate_dst (N := 37) rfl ?_); go_must (refine M.out.ev_ld 3 _ _ rfl rfl rfl Try.underlying2 rfl rfl (by first | assumption | rfl) ?_))
        | ((with_reducible refine gate_dst (N := 43) rfl ?_); go_must (refine M.out.ev_ld 1 _ _ rfl rfl rfl Try.underlying33 rfl rfl (by first | assumption | rfl) ?_))
        | ((with_reducible refine gate_dst (N := 45) rfl ?_); go_must (refine M.out.ev_ld 3 _ _ rfl rfl rfl Try.underlying2 rfl rfl (by first | assumption | rfl) ?_))
        | (go_at_call 53; go_must (refine (flockCode_any _ F HF.out _ n xs HX.out hl (j : Int) 54 _ (spFine xs (j : Int) b) _ (M.out.blk 0 rfl) (M.out.sl HS.out) (fun _ _ => by go_simp) (fun hq w1 m1 => spIs_any _ _ _ _ n F xs HX.out hl (j : Int) b hq w1 ((M.out.join m1).blk 3 rfl) ((M.out.join m1).blk 1 rfl) ((M.out.join m1).blk 2 rfl) ((M.out.join m1).sl HS.out))).mono ?_); rintro e w_ ⟨rfl, N_⟩; have m := M.out.join N_; clear N_; simp only [List.cons_append, List.nil_append, List.append_nil] at m; have M := Lib.hid m; clear m; rw [HD.out]; have q1 := M.out.cell (j := 0) (v := .slice _ xs.length n) 1 rfl rfl; have q2 := M.out.cell (j := 0) (v := .int .i64 (j : Int)) 2 rfl rfl; have q3 := M.out.cell (j := 0) (v := .int .i64 b) 3 rfl rfl)
        )
      go_ret2
      have m := (M.out.take 0).nilrow 48 6
      have hac : spCode F xs j b = 3 := by simp [spCode, HD.out, H12.out]
      rw [spRes, hac]
      exact ⟨none, 0, rfl, Nat.le_refl _, m⟩
    · have H12 := Lib.hid h12
      have hb12 : ((xs.length : Int) == 12) = false := by simp; omega
      clear h12
      go_enter Try.func25, Try.ntmps25
      go_wp2_with (first
        | ((with_reducible refine gate_dst (N := 4) rfl ?_); go_must (refine M.out.ev_new rfl (by first | (go_simp; done) | (go_simp; rfl)) ?_); intro g4 w4 m; simp only [List.cons_append, List.nil_append] at m; have M := Lib.hid m; clear m; try have q1_0 := M.out.cell (j := 0) 1 rfl (by first | assumption | rfl); try have q2_0 := M.out.cell (j := 0) 2 rfl (by first | assumption | rfl); try have q3_0 := M.out.cell (j := 0) 3 rfl (by first | assumption | rfl))
        | ((with_reducible refine gate_dst (N := 5) rfl ?_); go_must (refine M.out.ev_new rfl (by first | (go_simp; done) | (go_simp; rfl)) ?_); intro g5 w5 m; simp only [List.cons_append, List.nil_append] at m; have M := Lib.hid m; clear m; try have q1_0 := M.out.cell (j := 0) 1 rfl (by first | assumption | rfl); try have q2_0 := M.out.cell (j := 0) 2 rfl (by first | assumption | rfl); try have q3_0 := M.out.cell (j := 0) 3 rfl (by first | assumption | rfl))
        | ((with_reducible refine gate_dst (N := 6) rfl ?_); go_must (refine M.out.ev_new rfl (by first | (go_simp; done) | (go_simp; rfl)) ?_); intro g6 w6 m; simp only [List.cons_append, List.nil_append] at m; have M := Lib.hid m; clear m; try have q1_0 := M.out.cell (j := 0) 1 rfl (by first | assumption | rfl); try have q2_0 := M.out.cell (j := 0) 2 rfl (by first | assumption | rfl); try have q3_0 := M.out.cell (j := 0) 3 rfl (by first | assumption | rfl))
        | ((with_reducible refine gate_dst (N := 7) rfl ?_); go_must (refine M.out.ev_new rfl (by first | (go_simp; done) | (go_simp; rfl)) ?_); intro g7 w7 m; simp only [List.cons_append, List.nil_append] at m; have M := Lib.hid m; clear m; try have q1_0 := M.out.cell (j := 0) 1 rfl (by first | assumption | rfl); try have q2_0 := M.out.cell (j := 0) 2 rfl (by first | assumption | rfl); try have q3_0 := M.out.cell (j := 0) 3 rfl (by first | assumption | rfl))
        | ((with_reducible refine gate_dst (N := 12) rfl ?_); go_must (refine M.out.ev_ld 1 _ _ rfl rfl rfl Try.underlying33 rfl rfl (by first | assumption | rfl) ?_))
        | ((with_reducible refine gate_dst (N := 13) rfl ?_); go_must (refine M.out.ev_ld 2 _ _ rfl rfl rfl Try.underlying2 rfl rfl (by first | assumption | rfl) ?_))
        | ((with_reducible refine gate_dst (N := 21) rfl ?_); go_must (refine M.out.ev_ld 1 _ _ rfl rfl rfl Try.underlying33 rfl rfl (by first | assumption | rfl) ?_))
        | ((with_reducible refine gate_dst (N := 24) rfl ?_); go_must (refine M.out.ev_ld 1 _ _ rfl rfl rfl Try.underlying33 rfl rfl (by first | assumption | rfl) ?_))
        | ((with_reducible refine gate_dst (N := 26) rfl ?_); go_must (refine M.out.ev_ld 1 _ _ rfl rfl rfl Try.underlying33 rfl rfl (by first | assumption | rfl) ?_))
        | ((with_reducible refine gate_dst (N := 27) rfl ?_); go_must (refine M.out.ev_ld 2 _ _ rfl rfl rfl Try.underlying2 rfl rfl (by first | assumption | rfl) ?_))
        | ((with_reducible refine gate_dst (N := 33) rfl ?_); go_must (refine M.out.ev_ld 2 _ _ rfl rfl rfl Try.underlying2 rfl rfl (by first | assumption | rfl) ?_))
        | ((with_reducible refine gate_dst (N := 37) rfl ?_); go_must (refine M.out.ev_ld 3 _ _ rfl rfl rfl Try.underlying2 rfl rfl (by first | assumption | rfl) ?_))
        | ((with_reducible refine gate_dst (N := 43) rfl ?_); go_must (refine M.out.ev_ld 1 _ _ rfl rfl rfl Try.underlying33 rfl rfl (by first | assumption | rfl) ?_))
        | ((with_reducible refine gate_dst (N := 45) rfl ?_); go_must (refine M.out.ev_ld 3 _ _ rfl rfl rfl Try.underlying2 rfl rfl (by first | assumption | rfl) ?_))
        | (go_at_call 53; go_must (refine (flockCode_any _ F HF.out _ n xs HX.out hl (j : Int) 54 _ (spFine xs (j : Int) b) _ (M.out.blk 0 rfl) (M.out.sl HS.out) (fun _ _ => by go_simp) (fun hq w1 m1 => spIs_any _ _ _ _ n F xs HX.out hl (j : Int) b hq w1 ((M.out.join m1).blk 3 rfl) ((M.out.join m1).blk 1 rfl) ((M.out.join m1).blk 2 rfl) ((M.out.join m1).sl HS.out))).mono ?_); rintro e w_ ⟨rfl, N_⟩; have m := M.out.join N_; clear N_; simp only [List.cons_append, List.nil_append, List.append_nil] at m; have M := Lib.hid m; clear m; rw [HD.out]; have q1 := M.out.cell (j := 0) (v := .slice _ xs.length n) 1 rfl rfl; have q2 := M.out.cell (j := 0) (v := .int .i64 (j : Int)) 2 rfl rfl; have q3 := M.out.cell (j := 0) (v := .int .i64 b) 3 rfl rfl)
        )
      refine region_anyH (fun w' => Mem w w' [.blk g4 29 F.cells, .blk g5 33 #[.slice (some ⟨b', off, none⟩) xs.length n], .blk g6 2 #[.int .i64 j], .blk g7 2 #[.int .i64 b]]) (by kernel_rfl) ?_
      have m := M.out.drew
      clear M
      have M := Lib.hid m
      clear m
      apply takeH (i := 0) 24 rfl (by kernel_rfl) (by kernel_rfl) (by kernel_rfl) (fun _ _ _ h => h) rfl (by first | exact M.out | exact M.out.take 4)
      case' hy => exact ylds _ _ rfl rfl Try.underlying33 rfl rfl (fun w' hS => hS.cell 1 rfl (by first | assumption | rfl))
      try simp only [Act.put, List.getElem_toArray, List.getElem_cons_succ, List.getElem_cons_zero, List.setIfInBounds_toArray, List.set_cons_succ, List.set_cons_zero]
      apply takeH (i := 2) 26 rfl (by kernel_rfl) (by kernel_rfl) (by kernel_rfl) (fun _ _ _ h => h) rfl (by first | exact M.out | exact M.out.take 4)
      case' hy => exact ylds _ _ rfl rfl Try.underlying33 rfl rfl (fun w' hS => hS.cell 1 rfl (by first | assumption | rfl))
      try simp only [Act.put, List.getElem_toArray, List.getElem_cons_succ, List.getElem_cons_zero, List.setIfInBounds_toArray, List.set_cons_succ, List.set_cons_zero]
      apply takeH (i := 3) 27 rfl (by kernel_rfl) (by kernel_rfl) (by kernel_rfl) (fun _ _ _ h => h) rfl (by first | exact M.out | exact M.out.take 4)
      case' hy => exact ylds _ _ rfl rfl Try.underlying2 rfl rfl (fun w' hS => hS.cell 2 rfl (by first | assumption | rfl))
      try simp only [Act.put, List.getElem_toArray, List.getElem_cons_succ, List.getElem_cons_zero, List.setIfInBounds_toArray, List.set_cons_succ, List.set_cons_zero]
      apply takeH (i := 4) 28 rfl (by kernel_rfl) (by kernel_rfl) (by kernel_rfl) (fun _ _ _ h => h) rfl (by first | exact M.out | exact M.out.take 4)
      case' hy =>
        refine Or.inl ⟨by first | rfl | (go_simp; done), ?_⟩
        intro w hS
        clear hS
        go_simp
        try with_reducible rfl
      try simp only [Act.put, List.getElem_toArray, List.getElem_cons_succ, List.getElem_cons_zero, List.setIfInBounds_toArray, List.set_cons_succ, List.set_cons_zero]
      refine any2H 1 5 (by kernel_rfl) rfl rfl (fun K hK => ?_) (fun K hK => ?_)
      rotate_right 1
      case' _ =>
        go_wp2_with (first | ((with_reducible refine gate_dst (N := 24) rfl ?_); go_must (refine M.out.ev_ld 1 _ _ rfl rfl rfl Try.underlying33 rfl rfl (by first | assumption | rfl) ?_)) | ((with_reducible refine gate_dst (N := 26) rfl ?_); go_must (refine M.out.ev_ld 1 _ _ rfl rfl rfl Try.underlying33 rfl rfl (by first | assumption | rfl) ?_)) | ((with_reducible refine gate_dst (N := 27) rfl ?_); go_must (refine M.out.ev_ld 2 _ _ rfl rfl rfl Try.underlying2 rfl rfl (by first | assumption | rfl) ?_)) | (go_at_call 55; go_must (refine (cloneFlock_any _ n xs hl hc hA _ (M.out.sl HS.out)).mono ?_); rintro e w_ ⟨A_, c_, rfl, hc_, N_⟩; have m := M.out.join N_; clear N_; simp only [List.cons_append, List.nil_append, List.append_nil] at m; have M := Lib.hid m; clear m) | ((with_reducible refine gate_dst (N := 29) rfl ?_); go_must (refine ev_ldr _ _ rfl rfl (M.out.argrange R.out) Try.underlying48 rfl (by first | exact sz48 | (rw [S1.out]; exact sz48)) rfl ?_)) | ((with_reducible refine gate_dst (N := 30) rfl ?_); go_must (refine M.out.ev_bs1 elem_Flock rfl _ rfl xs[j].vals.toArray rfl rfl (by decide) ?_); intro g30 w30 m; simp only [List.cons_append, List.nil_append] at m; have M := Lib.hid m; clear m) | ((with_reducible refine gate_dst (N := 31) rfl ?_); go_must (first | (refine M.out.ev_append1 4 5 elem_Flock rfl _ _ rfl rfl rfl rfl rfl rfl (Flock.one _) (by omega) (by decide) ?_) | (refine M.out.ev_append1 5 4 elem_Flock rfl _ _ rfl rfl rfl rfl rfl rfl (Flock.one _) (by omega) (by decide) ?_)); intro v31 w31 m; simp only [List.set_cons_succ, List.set_cons_zero] at m; have M := Lib.hid m; clear m))
        refine onward_normal (hK _ _ ⟨(by first | exact M.out | exact M.out.take 4), ?_⟩)
        clear hK K
        try simp only [Act.put, List.getElem_toArray, List.getElem_cons_succ, List.getElem_cons_zero, List.setIfInBounds_toArray, List.set_cons_succ, List.set_cons_zero]
        refine any2H 1 6 (by kernel_rfl) rfl rfl (fun K hK => ?_) (fun K hK => ?_)
        rotate_right 1
        case' _ =>
          go_wp2_with (first | ((with_reducible refine gate_dst (N := 24) rfl ?_); go_must (refine M.out.ev_ld 1 _ _ rfl rfl rfl Try.underlying33 rfl rfl (by first | assumption | rfl) ?_)) | ((with_reducible refine gate_dst (N := 26) rfl ?_); go_must (refine M.out.ev_ld 1 _ _ rfl rfl rfl Try.underlying33 rfl rfl (by first | assumption | rfl) ?_)) | ((with_reducible refine gate_dst (N := 27) rfl ?_); go_must (refine M.out.ev_ld 2 _ _ rfl rfl rfl Try.underlying2 rfl rfl (by first | assumption | rfl) ?_)) | (go_at_call 55; go_must (refine (cloneFlock_any _ n xs hl hc hA _ (M.out.sl HS.out)).mono ?_); rintro e w_ ⟨A_, c_, rfl, hc_, N_⟩; have m := M.out.join N_; clear N_; simp only [List.cons_append, List.nil_append, List.append_nil] at m; have M := Lib.hid m; clear m) | ((with_reducible refine gate_dst (N := 29) rfl ?_); go_must (refine ev_ldr _ _ rfl rfl (M.out.argrange R.out) Try.underlying48 rfl (by first | exact sz48 | (rw [S1.out]; exact sz48)) rfl ?_)) | ((with_reducible refine gate_dst (N := 30) rfl ?_); go_must (refine M.out.ev_bs1 elem_Flock rfl _ rfl xs[j].vals.toArray rfl rfl (by decide) ?_); intro g30 w30 m; simp only [List.cons_append, List.nil_append] at m; have M := Lib.hid m; clear m) | ((with_reducible refine gate_dst (N := 31) rfl ?_); go_must (first | (refine M.out.ev_append1 4 5 elem_Flock rfl _ _ rfl rfl rfl rfl rfl rfl (Flock.one _) (by omega) (by decide) ?_) | (refine M.out.ev_append1 5 4 elem_Flock rfl _ _ rfl rfl rfl rfl rfl rfl (Flock.one _) (by omega) (by decide) ?_)); intro v31 w31 m; simp only [List.set_cons_succ, List.set_cons_zero] at m; have M := Lib.hid m; clear m))
          refine onward_normal (hK _ _ ⟨(by first | exact M.out | exact M.out.take 4), ?_⟩)
          clear hK K
          try simp only [Act.put, List.getElem_toArray, List.getElem_cons_succ, List.getElem_cons_zero, List.setIfInBounds_toArray, List.set_cons_succ, List.set_cons_zero]
          refine any1H 1 (by kernel_rfl) rfl (fun K hK => ?_)
          go_wp2_with (first | ((with_reducible refine gate_dst (N := 24) rfl ?_); go_must (refine M.out.ev_ld 1 _ _ rfl rfl rfl Try.underlying33 rfl rfl (by first | assumption | rfl) ?_)) | ((with_reducible refine gate_dst (N := 26) rfl ?_); go_must (refine M.out.ev_ld 1 _ _ rfl rfl rfl Try.underlying33 rfl rfl (by first | assumption | rfl) ?_)) | ((with_reducible refine gate_dst (N := 27) rfl ?_); go_must (refine M.out.ev_ld 2 _ _ rfl rfl rfl Try.underlying2 rfl rfl (by first | assumption | rfl) ?_)) | (go_at_call 55; go_must (refine (cloneFlock_any _ n xs hl hc hA _ (M.out.sl HS.out)).mono ?_); rintro e w_ ⟨A_, c_, rfl, hc_, N_⟩; have m := M.out.join N_; clear N_; simp only [List.cons_append, List.nil_append, List.append_nil] at m; have M := Lib.hid m; clear m) | ((with_reducible refine gate_dst (N := 29) rfl ?_); go_must (refine ev_ldr _ _ rfl rfl (M.out.argrange R.out) Try.underlying48 rfl (by first | exact sz48 | (rw [S1.out]; exact sz48)) rfl ?_)) | ((with_reducible refine gate_dst (N := 30) rfl ?_); go_must (refine M.out.ev_bs1 elem_Flock rfl _ rfl xs[j].vals.toArray rfl rfl (by decide) ?_); intro g30 w30 m; simp only [List.cons_append, List.nil_append] at m; have M := Lib.hid m; clear m) | ((with_reducible refine gate_dst (N := 31) rfl ?_); go_must (first | (refine M.out.ev_append1 4 5 elem_Flock rfl _ _ rfl rfl rfl rfl rfl rfl (Flock.one _) (by omega) (by decide) ?_) | (refine M.out.ev_append1 5 4 elem_Flock rfl _ _ rfl rfl rfl rfl rfl rfl (Flock.one _) (by omega) (by decide) ?_)); intro v31 w31 m; simp only [List.set_cons_succ, List.set_cons_zero] at m; have M := Lib.hid m; clear m))
          refine onward_normal (hK _ _ ⟨(by first | exact M.out | exact M.out.take 4), ?_⟩)
          clear hK K
          try simp only [Act.put, List.getElem_toArray, List.getElem_cons_succ, List.getElem_cons_zero, List.setIfInBounds_toArray, List.set_cons_succ, List.set_cons_zero]
          refine any1H 7 (by kernel_rfl) rfl (fun K hK => ?_)
          go_wp2_with (first | ((with_reducible refine gate_dst (N := 24) rfl ?_); go_must (refine M.out.ev_ld 1 _ _ rfl rfl rfl Try.underlying33 rfl rfl (by first | assumption | rfl) ?_)) | ((with_reducible refine gate_dst (N := 26) rfl ?_); go_must (refine M.out.ev_ld 1 _ _ rfl rfl rfl Try.underlying33 rfl rfl (by first | assumption | rfl) ?_)) | ((with_reducible refine gate_dst (N := 27) rfl ?_); go_must (refine M.out.ev_ld 2 _ _ rfl rfl rfl Try.underlying2 rfl rfl (by first | assumption | rfl) ?_)) | (go_at_call 55; go_must (refine (cloneFlock_any _ n xs hl hc hA _ (M.out.sl HS.out)).mono ?_); rintro e w_ ⟨A_, c_, rfl, hc_, N_⟩; have m := M.out.join N_; clear N_; simp only [List.cons_append, List.nil_append, List.append_nil] at m; have M := Lib.hid m; clear m) | ((with_reducible refine gate_dst (N := 29) rfl ?_); go_must (refine ev_ldr _ _ rfl rfl (M.out.argrange R.out) Try.underlying48 rfl (by first | exact sz48 | (rw [S1.out]; exact sz48)) rfl ?_)) | ((with_reducible refine gate_dst (N := 30) rfl ?_); go_must (refine M.out.ev_bs1 elem_Flock rfl _ rfl xs[j].vals.toArray rfl rfl (by decide) ?_); intro g30 w30 m; simp only [List.cons_append, List.nil_append] at m; have M := Lib.hid m; clear m) | ((with_reducible refine gate_dst (N := 31) rfl ?_); go_must (first | (refine M.out.ev_append1 4 5 elem_Flock rfl _ _ rfl rfl rfl rfl rfl rfl (Flock.one _) (by omega) (by decide) ?_) | (refine M.out.ev_append1 5 4 elem_Flock rfl _ _ rfl rfl rfl rfl rfl rfl (Flock.one _) (by omega) (by decide) ?_)); intro v31 w31 m; simp only [List.set_cons_succ, List.set_cons_zero] at m; have M := Lib.hid m; clear m))
          refine onward_normal (hK _ _ ⟨(by first | exact M.out | exact M.out.take 4), ?_⟩)
          clear hK K
          try simp only [Act.put, List.getElem_toArray, List.getElem_cons_succ, List.getElem_cons_zero, List.setIfInBounds_toArray, List.set_cons_succ, List.set_cons_zero]
          apply takeH (i := 8) 11 rfl (by kernel_rfl) (by kernel_rfl) (by kernel_rfl) (fun _ _ _ h => h) rfl (by first | exact M.out | exact M.out.take 4)
          case' hy =>
            refine Or.inl ⟨by first | rfl | (go_simp; done), ?_⟩
            intro w hS
            clear hS
            go_simp
            try with_reducible rfl
          try simp only [Act.put, List.getElem_toArray, List.getElem_cons_succ, List.getElem_cons_zero, List.setIfInBounds_toArray, List.set_cons_succ, List.set_cons_zero]
          refine wpAnyH_done (by kernel_rfl) ?_ _
        rotate_right 1
        case' _ =>
          go_wp2_with (first | ((with_reducible refine gate_dst (N := 24) rfl ?_); go_must (refine M.out.ev_ld 1 _ _ rfl rfl rfl Try.underlying33 rfl rfl (by first | assumption | rfl) ?_)) | ((with_reducible refine gate_dst (N := 26) rfl ?_); go_must (refine M.out.ev_ld 1 _ _ rfl rfl rfl Try.underlying33 rfl rfl (by first | assumption | rfl) ?_)) | ((with_reducible refine gate_dst (N := 27) rfl ?_); go_must (refine M.out.ev_ld 2 _ _ rfl rfl rfl Try.underlying2 rfl rfl (by first | assumption | rfl) ?_)) | (go_at_call 55; go_must (refine (cloneFlock_any _ n xs hl hc hA _ (M.out.sl HS.out)).mono ?_); rintro e w_ ⟨A_, c_, rfl, hc_, N_⟩; have m := M.out.join N_; clear N_; simp only [List.cons_append, List.nil_append, List.append_nil] at m; have M := Lib.hid m; clear m) | ((with_reducible refine gate_dst (N := 29) rfl ?_); go_must (refine ev_ldr _ _ rfl rfl (M.out.argrange R.out) Try.underlying48 rfl (by first | exact sz48 | (rw [S1.out]; exact sz48)) rfl ?_)) | ((with_reducible refine gate_dst (N := 30) rfl ?_); go_must (refine M.out.ev_bs1 elem_Flock rfl _ rfl xs[j].vals.toArray rfl rfl (by decide) ?_); intro g30 w30 m; simp only [List.cons_append, List.nil_append] at m; have M := Lib.hid m; clear m) | ((with_reducible refine gate_dst (N := 31) rfl ?_); go_must (first | (refine M.out.ev_append1 4 5 elem_Flock rfl _ _ rfl rfl rfl rfl rfl rfl (Flock.one _) (by omega) (by decide) ?_) | (refine M.out.ev_append1 5 4 elem_Flock rfl _ _ rfl rfl rfl rfl rfl rfl (Flock.one _) (by omega) (by decide) ?_)); intro v31 w31 m; simp only [List.set_cons_succ, List.set_cons_zero] at m; have M := Lib.hid m; clear m))
          refine onward_normal (hK _ _ ⟨(by first | exact M.out | exact M.out.take 4), ?_⟩)
          clear hK K
          try simp only [Act.put, List.getElem_toArray, List.getElem_cons_succ, List.getElem_cons_zero, List.setIfInBounds_toArray, List.set_cons_succ, List.set_cons_zero]
          refine any1H 6 (by kernel_rfl) rfl (fun K hK => ?_)
          go_wp2_with (first | ((with_reducible refine gate_dst (N := 24) rfl ?_); go_must (refine M.out.ev_ld 1 _ _ rfl rfl rfl Try.underlying33 rfl rfl (by first | assumption | rfl) ?_)) | ((with_reducible refine gate_dst (N := 26) rfl ?_); go_must (refine M.out.ev_ld 1 _ _ rfl rfl rfl Try.underlying33 rfl rfl (by first | assumption | rfl) ?_)) | ((with_reducible refine gate_dst (N := 27) rfl ?_); go_must (refine M.out.ev_ld 2 _ _ rfl rfl rfl Try.underlying2 rfl rfl (by first | assumption | rfl) ?_)) | (go_at_call 55; go_must (refine (cloneFlock_any _ n xs hl hc hA _ (M.out.sl HS.out)).mono ?_); rintro e w_ ⟨A_, c_, rfl, hc_, N_⟩; have m := M.out.join N_; clear N_; simp only [List.cons_append, List.nil_append, List.append_nil] at m; have M := Lib.hid m; clear m) | ((with_reducible refine gate_dst (N := 29) rfl ?_); go_must (refine ev_ldr _ _ rfl rfl (M.out.argrange R.out) Try.underlying48 rfl (by first | exact sz48 | (rw [S1.out]; exact sz48)) rfl ?_)) | ((with_reducible refine gate_dst (N := 30) rfl ?_); go_must (refine M.out.ev_bs1 elem_Flock rfl _ rfl xs[j].vals.toArray rfl rfl (by decide) ?_); intro g30 w30 m; simp only [List.cons_append, List.nil_append] at m; have M := Lib.hid m; clear m) | ((with_reducible refine gate_dst (N := 31) rfl ?_); go_must (first | (refine M.out.ev_append1 4 5 elem_Flock rfl _ _ rfl rfl rfl rfl rfl rfl (Flock.one _) (by omega) (by decide) ?_) | (refine M.out.ev_append1 5 4 elem_Flock rfl _ _ rfl rfl rfl rfl rfl rfl (Flock.one _) (by omega) (by decide) ?_)); intro v31 w31 m; simp only [List.set_cons_succ, List.set_cons_zero] at m; have M := Lib.hid m; clear m))
          refine onward_normal (hK _ _ ⟨(by first | exact M.out | exact M.out.take 4), ?_⟩)
          clear hK K
          try simp only [Act.put, List.getElem_toArray, List.getElem_cons_succ, List.getElem_cons_zero, List.setIfInBounds_toArray, List.set_cons_succ, List.set_cons_zero]
          refine any1H 7 (by kernel_rfl) rfl (fun K hK => ?_)
          go_wp2_with (first | ((with_reducible refine gate_dst (N := 24) rfl ?_); go_must (refine M.out.ev_ld 1 _ _ rfl rfl rfl Try.underlying33 rfl rfl (by first | assumption | rfl) ?_)) | ((with_reducible refine gate_dst (N := 26) rfl ?_); go_must (refine M.out.ev_ld 1 _ _ rfl rfl rfl Try.underlying33 rfl rfl (by first | assumption | rfl) ?_)) | ((with_reducible refine gate_dst (N := 27) rfl ?_); go_must (refine M.out.ev_ld 2 _ _ rfl rfl rfl Try.underlying2 rfl rfl (by first | assumption | rfl) ?_)) | (go_at_call 55; go_must (refine (cloneFlock_any _ n xs hl hc hA _ (M.out.sl HS.out)).mono ?_); rintro e w_ ⟨A_, c_, rfl, hc_, N_⟩; have m := M.out.join N_; clear N_; simp only [List.cons_append, List.nil_append, List.append_nil] at m; have M := Lib.hid m; clear m) | ((with_reducible refine gate_dst (N := 29) rfl ?_); go_must (refine ev_ldr _ _ rfl rfl (M.out.argrange R.out) Try.underlying48 rfl (by first | exact sz48 | (rw [S1.out]; exact sz48)) rfl ?_)) | ((with_reducible refine gate_dst (N := 30) rfl ?_); go_must (refine M.out.ev_bs1 elem_Flock rfl _ rfl xs[j].vals.toArray rfl rfl (by decide) ?_); intro g30 w30 m; simp only [List.cons_append, List.nil_append] at m; have M := Lib.hid m; clear m) | ((with_reducible refine gate_dst (N := 31) rfl ?_); go_must (first | (refine M.out.ev_append1 4 5 elem_Flock rfl _ _ rfl rfl rfl rfl rfl rfl (Flock.one _) (by omega) (by decide) ?_) | (refine M.out.ev_append1 5 4 elem_Flock rfl _ _ rfl rfl rfl rfl rfl rfl (Flock.one _) (by omega) (by decide) ?_)); intro v31 w31 m; simp only [List.set_cons_succ, List.set_cons_zero] at m; have M := Lib.hid m; clear m))
          refine onward_normal (hK _ _ ⟨(by first | exact M.out | exact M.out.take 4), ?_⟩)
          clear hK K
          try simp only [Act.put, List.getElem_toArray, List.getElem_cons_succ, List.getElem_cons_zero, List.setIfInBounds_toArray, List.set_cons_succ, List.set_cons_zero]
          apply takeH (i := 8) 11 rfl (by kernel_rfl) (by kernel_rfl) (by kernel_rfl) (fun _ _ _ h => h) rfl (by first | exact M.out | exact M.out.take 4)
          case' hy =>
            refine Or.inl ⟨by first | rfl | (go_simp; done), ?_⟩
            intro w hS
            clear hS
            go_simp
            try with_reducible rfl
          try simp only [Act.put, List.getElem_toArray, List.getElem_cons_succ, List.getElem_cons_zero, List.setIfInBounds_toArray, List.set_cons_succ, List.set_cons_zero]
          refine wpAnyH_done (by kernel_rfl) ?_ _
      rotate_right 1
      case' _ =>
        go_wp2_with (first | ((with_reducible refine gate_dst (N := 24) rfl ?_); go_must (refine M.out.ev_ld 1 _ _ rfl rfl rfl Try.underlying33 rfl rfl (by first | assumption | rfl) ?_)) | ((with_reducible refine gate_dst (N := 26) rfl ?_); go_must (refine M.out.ev_ld 1 _ _ rfl rfl rfl Try.underlying33 rfl rfl (by first | assumption | rfl) ?_)) | ((with_reducible refine gate_dst (N := 27) rfl ?_); go_must (refine M.out.ev_ld 2 _ _ rfl rfl rfl Try.underlying2 rfl rfl (by first | assumption | rfl) ?_)) | (go_at_call 55; go_must (refine (cloneFlock_any _ n xs hl hc hA _ (M.out.sl HS.out)).mono ?_); rintro e w_ ⟨A_, c_, rfl, hc_, N_⟩; have m := M.out.join N_; clear N_; simp only [List.cons_append, List.nil_append, List.append_nil] at m; have M := Lib.hid m; clear m) | ((with_reducible refine gate_dst (N := 29) rfl ?_); go_must (refine ev_ldr _ _ rfl rfl (M.out.argrange R.out) Try.underlying48 rfl (by first | exact sz48 | (rw [S1.out]; exact sz48)) rfl ?_)) | ((with_reducible refine gate_dst (N := 30) rfl ?_); go_must (refine M.out.ev_bs1 elem_Flock rfl _ rfl xs[j].vals.toArray rfl rfl (by decide) ?_); intro g30 w30 m; simp only [List.cons_append, List.nil_append] at m; have M := Lib.hid m; clear m) | ((with_reducible refine gate_dst (N := 31) rfl ?_); go_must (first | (refine M.out.ev_append1 4 5 elem_Flock rfl _ _ rfl rfl rfl rfl rfl rfl (Flock.one _) (by omega) (by decide) ?_) | (refine M.out.ev_append1 5 4 elem_Flock rfl _ _ rfl rfl rfl rfl rfl rfl (Flock.one _) (by omega) (by decide) ?_)); intro v31 w31 m; simp only [List.set_cons_succ, List.set_cons_zero] at m; have M := Lib.hid m; clear m))
        refine onward_normal (hK _ _ ⟨(by first | exact M.out | exact M.out.take 4), ?_⟩)
        clear hK K
        try simp only [Act.put, List.getElem_toArray, List.getElem_cons_succ, List.getElem_cons_zero, List.setIfInBounds_toArray, List.set_cons_succ, List.set_cons_zero]
        refine any1H 5 (by kernel_rfl) rfl (fun K hK => ?_)
        go_wp2_with (first | ((with_reducible refine gate_dst (N := 24) rfl ?_); go_must (refine M.out.ev_ld 1 _ _ rfl rfl rfl Try.underlying33 rfl rfl (by first | assumption | rfl) ?_)) | ((with_reducible refine gate_dst (N := 26) rfl ?_); go_must (refine M.out.ev_ld 1 _ _ rfl rfl rfl Try.underlying33 rfl rfl (by first | assumption | rfl) ?_)) | ((with_reducible refine gate_dst (N := 27) rfl ?_); go_must (refine M.out.ev_ld 2 _ _ rfl rfl rfl Try.underlying2 rfl rfl (by first | assumption | rfl) ?_)) | (go_at_call 55; go_must (refine (cloneFlock_any _ n xs hl hc hA _ (M.out.sl HS.out)).mono ?_); rintro e w_ ⟨A_, c_, rfl, hc_, N_⟩; have m := M.out.join N_; clear N_; simp only [List.cons_append, List.nil_append, List.append_nil] at m; have M := Lib.hid m; clear m) | ((with_reducible refine gate_dst (N := 29) rfl ?_); go_must (refine ev_ldr _ _ rfl rfl (M.out.argrange R.out) Try.underlying48 rfl (by first | exact sz48 | (rw [S1.out]; exact sz48)) rfl ?_)) | ((with_reducible refine gate_dst (N := 30) rfl ?_); go_must (refine M.out.ev_bs1 elem_Flock rfl _ rfl xs[j].vals.toArray rfl rfl (by decide) ?_); intro g30 w30 m; simp only [List.cons_append, List.nil_append] at m; have M := Lib.hid m; clear m) | ((with_reducible refine gate_dst (N := 31) rfl ?_); go_must (first | (refine M.out.ev_append1 4 5 elem_Flock rfl _ _ rfl rfl rfl rfl rfl rfl (Flock.one _) (by omega) (by decide) ?_) | (refine M.out.ev_append1 5 4 elem_Flock rfl _ _ rfl rfl rfl rfl rfl rfl (Flock.one _) (by omega) (by decide) ?_)); intro v31 w31 m; simp only [List.set_cons_succ, List.set_cons_zero] at m; have M := Lib.hid m; clear m))
        refine onward_normal (hK _ _ ⟨(by first | exact M.out | exact M.out.take 4), ?_⟩)
        clear hK K
        try simp only [Act.put, List.getElem_toArray, List.getElem_cons_succ, List.getElem_cons_zero, List.setIfInBounds_toArray, List.set_cons_succ, List.set_cons_zero]
        refine any1H 6 (by kernel_rfl) rfl (fun K hK => ?_)
        go_wp2_with (first | ((with_reducible refine gate_dst (N := 24) rfl ?_); go_must (refine M.out.ev_ld 1 _ _ rfl rfl rfl Try.underlying33 rfl rfl (by first | assumption | rfl) ?_)) | ((with_reducible refine gate_dst (N := 26) rfl ?_); go_must (refine M.out.ev_ld 1 _ _ rfl rfl rfl Try.underlying33 rfl rfl (by first | assumption | rfl) ?_)) | ((with_reducible refine gate_dst (N := 27) rfl ?_); go_must (refine M.out.ev_ld 2 _ _ rfl rfl rfl Try.underlying2 rfl rfl (by first | assumption | rfl) ?_)) | (go_at_call 55; go_must (refine (cloneFlock_any _ n xs hl hc hA _ (M.out.sl HS.out)).mono ?_); rintro e w_ ⟨A_, c_, rfl, hc_, N_⟩; have m := M.out.join N_; clear N_; simp only [List.cons_append, List.nil_append, List.append_nil] at m; have M := Lib.hid m; clear m) | ((with_reducible refine gate_dst (N := 29) rfl ?_); go_must (refine ev_ldr _ _ rfl rfl (M.out.argrange R.out) Try.underlying48 rfl (by first | exact sz48 | (rw [S1.out]; exact sz48)) rfl ?_)) | ((with_reducible refine gate_dst (N := 30) rfl ?_); go_must (refine M.out.ev_bs1 elem_Flock rfl _ rfl xs[j].vals.toArray rfl rfl (by decide) ?_); intro g30 w30 m; simp only [List.cons_append, List.nil_append] at m; have M := Lib.hid m; clear m) | ((with_reducible refine gate_dst (N := 31) rfl ?_); go_must (first | (refine M.out.ev_append1 4 5 elem_Flock rfl _ _ rfl rfl rfl rfl rfl rfl (Flock.one _) (by omega) (by decide) ?_) | (refine M.out.ev_append1 5 4 elem_Flock rfl _ _ rfl rfl rfl rfl rfl rfl (Flock.one _) (by omega) (by decide) ?_)); intro v31 w31 m; simp only [List.set_cons_succ, List.set_cons_zero] at m; have M := Lib.hid m; clear m))
        refine onward_normal (hK _ _ ⟨(by first | exact M.out | exact M.out.take 4), ?_⟩)
        clear hK K
        try simp only [Act.put, List.getElem_toArray, List.getElem_cons_succ, List.getElem_cons_zero, List.setIfInBounds_toArray, List.set_cons_succ, List.set_cons_zero]
        refine any1H 7 (by kernel_rfl) rfl (fun K hK => ?_)
        go_wp2_with (first | ((with_reducible refine gate_dst (N := 24) rfl ?_); go_must (refine M.out.ev_ld 1 _ _ rfl rfl rfl Try.underlying33 rfl rfl (by first | assumption | rfl) ?_)) | ((with_reducible refine gate_dst (N := 26) rfl ?_); go_must (refine M.out.ev_ld 1 _ _ rfl rfl rfl Try.underlying33 rfl rfl (by first | assumption | rfl) ?_)) | ((with_reducible refine gate_dst (N := 27) rfl ?_); go_must (refine M.out.ev_ld 2 _ _ rfl rfl rfl Try.underlying2 rfl rfl (by first | assumption | rfl) ?_)) | (go_at_call 55; go_must (refine (cloneFlock_any _ n xs hl hc hA _ (M.out.sl HS.out)).mono ?_); rintro e w_ ⟨A_, c_, rfl, hc_, N_⟩; have m := M.out.join N_; clear N_; simp only [List.cons_append, List.nil_append, List.append_nil] at m; have M := Lib.hid m; clear m) | ((with_reducible refine gate_dst (N := 29) rfl ?_); go_must (refine ev_ldr _ _ rfl rfl (M.out.argrange R.out) Try.underlying48 rfl (by first | exact sz48 | (rw [S1.out]; exact sz48)) rfl ?_)) | ((with_reducible refine gate_dst (N := 30) rfl ?_); go_must (refine M.out.ev_bs1 elem_Flock rfl _ rfl xs[j].vals.toArray rfl rfl (by decide) ?_); intro g30 w30 m; simp only [List.cons_append, List.nil_append] at m; have M := Lib.hid m; clear m) | ((with_reducible refine gate_dst (N := 31) rfl ?_); go_must (first | (refine M.out.ev_append1 4 5 elem_Flock rfl _ _ rfl rfl rfl rfl rfl rfl (Flock.one _) (by omega) (by decide) ?_) | (refine M.out.ev_append1 5 4 elem_Flock rfl _ _ rfl rfl rfl rfl rfl rfl (Flock.one _) (by omega) (by decide) ?_)); intro v31 w31 m; simp only [List.set_cons_succ, List.set_cons_zero] at m; have M := Lib.hid m; clear m))
        refine onward_normal (hK _ _ ⟨(by first | exact M.out | exact M.out.take 4), ?_⟩)
        clear hK K
        try simp only [Act.put, List.getElem_toArray, List.getElem_cons_succ, List.getElem_cons_zero, List.setIfInBounds_toArray, List.set_cons_succ, List.set_cons_zero]
        apply takeH (i := 8) 11 rfl (by kernel_rfl) (by kernel_rfl) (by kernel_rfl) (fun _ _ _ h => h) rfl (by first | exact M.out | exact M.out.take 4)
        case' hy =>
          refine Or.inl ⟨by first | rfl | (go_simp; done), ?_⟩
          intro w hS
          clear hS
          go_simp
          try with_reducible rfl
        try simp only [Act.put, List.getElem_toArray, List.getElem_cons_succ, List.getElem_cons_zero, List.setIfInBounds_toArray, List.set_cons_succ, List.set_cons_zero]
        refine wpAnyH_done (by kernel_rfl) ?_ _
      all_goals
        go_wp2
        first
          | have m := M.out.only [0, 1, 2, 3, 4] (K := [.blk _ _ _, .blk _ _ _, .blk _ _ _, .blk _ _ _, .row _ 48 6 (xs.length + 1) _]) rfl (by decide)
          | have m := M.out.only [0, 1, 2, 3, 5] (K := [.blk _ _ _, .blk _ _ _, .blk _ _ _, .blk _ _ _, .row _ 48 6 (xs.length + 1) _]) rfl (by decide)
        obtain ⟨g_, cap_, rfl, hcap⟩ := m.row_form 4 rfl (by omega)
        clear M
        have M := Lib.hid m
        clear m
        have HLL := Lib.hid (show (flat Flock.vals xs ++ xs[j].vals).length = xs.length * 6 + 6 by rw [List.length_append, HL.out]; rfl)
        have HAT := Lib.hid (show (flat Flock.vals xs ++ xs[j].vals)[j * 6 + 1]? = some (.int .i16 xs[j].birds) by
          rw [← flat_snoc]
          exact flat_at Flock.vl (by rw [List.getElem?_append_left hj]; exact List.getElem?_eq_getElem hj) rfl)
        refine region_anyH (fun w' => Mem w w' [.blk g4 29 F.cells, .blk g5 33 #[.slice (some ⟨b', off, none⟩) xs.length n], .blk g6 2 #[.int .i64 j], .blk g7 2 #[.int .i64 b]]) (by kernel_rfl) ?_
        have m := M.out.drew
        clear M
        have M := Lib.hid m
        clear m
        apply takeH (i := 0) 32 rfl (by kernel_rfl) (by kernel_rfl) (by kernel_rfl) (fun _ _ _ h => h) rfl (by first | exact M.out | exact M.out.take 4)
        case' hy =>
          refine Or.inl ⟨by first | rfl | (go_simp; done), ?_⟩
          intro w hS
          clear hS
          go_simp
          try with_reducible rfl
        try simp only [Act.put, List.getElem_toArray, List.getElem_cons_succ, List.getElem_cons_zero, List.setIfInBounds_toArray, List.set_cons_succ, List.set_cons_zero]
        apply takeH (i := 1) 33 rfl (by kernel_rfl) (by kernel_rfl) (by kernel_rfl) (fun _ _ _ h => h) rfl (by first | exact M.out | exact M.out.take 4)
        case' hy => exact ylds _ _ rfl rfl Try.underlying2 rfl rfl (fun w' hS => hS.cell 2 rfl (by first | assumption | rfl))
        try simp only [Act.put, List.getElem_toArray, List.getElem_cons_succ, List.getElem_cons_zero, List.setIfInBounds_toArray, List.set_cons_succ, List.set_cons_zero]
        apply takeH (i := 2) 34 rfl (by kernel_rfl) (by kernel_rfl) (by kernel_rfl) (fun _ _ _ h => h) rfl (by first | exact M.out | exact M.out.take 4)
        case' hy =>
          refine Or.inl ⟨by first | rfl | (go_simp; done), ?_⟩
          intro w hS
          clear hS
          go_simp
          try with_reducible rfl
        try simp only [Act.put, List.getElem_toArray, List.getElem_cons_succ, List.getElem_cons_zero, List.setIfInBounds_toArray, List.set_cons_succ, List.set_cons_zero]
        apply takeH (i := 3) 35 rfl (by kernel_rfl) (by kernel_rfl) (by kernel_rfl) (fun _ _ _ h => h) rfl (by first | exact M.out | exact M.out.take 4)
        case' hy =>
          refine Or.inl ⟨by first | rfl | (go_simp; done), ?_⟩
          intro w hS
          clear hS
          go_simp
          try with_reducible rfl
        try simp only [Act.put, List.getElem_toArray, List.getElem_cons_succ, List.getElem_cons_zero, List.setIfInBounds_toArray, List.set_cons_succ, List.set_cons_zero]
        apply takeH (i := 5) 37 rfl (by kernel_rfl) (by kernel_rfl) (by kernel_rfl) (fun _ _ _ h => h) rfl (by first | exact M.out | exact M.out.take 4)
        case' hy => exact ylds _ _ rfl rfl Try.underlying2 rfl rfl (fun w' hS => hS.cell 3 rfl (by first | assumption | rfl))
        try simp only [Act.put, List.getElem_toArray, List.getElem_cons_succ, List.getElem_cons_zero, List.setIfInBounds_toArray, List.set_cons_succ, List.set_cons_zero]
        apply takeH (i := 6) 38 rfl (by kernel_rfl) (by kernel_rfl) (by kernel_rfl) (fun _ _ _ h => h) rfl (by first | exact M.out | exact M.out.take 4)
        case' hy =>
          refine Or.inl ⟨by first | rfl | (go_simp; done), ?_⟩
          intro w hS
          clear hS
          go_simp
          try with_reducible rfl
        try simp only [Act.put, List.getElem_toArray, List.getElem_cons_succ, List.getElem_cons_zero, List.setIfInBounds_toArray, List.set_cons_succ, List.set_cons_zero]
        refine any1H 4 (by kernel_rfl) rfl (fun K hK => ?_)
        go_wp2_with (first | ((with_reducible refine gate_dst (N := 33) rfl ?_); go_must (refine M.out.ev_ld 2 _ _ rfl rfl rfl Try.underlying2 rfl rfl (by first | assumption | rfl) ?_)) | ((with_reducible refine gate_dst (N := 37) rfl ?_); go_must (refine M.out.ev_ld 3 _ _ rfl rfl rfl Try.underlying2 rfl rfl (by first | assumption | rfl) ?_)) | ((with_reducible refine gate_dst (N := 36) rfl ?_); go_must (refine ev_get _ _ rfl rfl (M.out.row_cell 4 rfl HAT.out) Try.underlying26 rfl rfl ?_)) | ((with_reducible refine gate_store (x := .tmp 41) rfl ?_); go_must (refine M.out.ev_rput1 4 _ _ _ rfl rfl rfl rfl (.int .i16 (xs[j].birds - b)) rfl (by rw [HLL.out]; omega) sz26 rfl rfl ?_); intro wn m; simp only [List.set_cons_succ, List.set_cons_zero] at m; have M := Lib.hid m; clear m))
        refine onward_normal (hK _ _ ⟨(by first | exact M.out | exact M.out.take 4), ?_⟩)
        clear hK K
        try simp only [Act.put, List.getElem_toArray, List.getElem_cons_succ, List.getElem_cons_zero, List.setIfInBounds_toArray, List.set_cons_succ, List.set_cons_zero]
        apply takeH (i := 7) 39 rfl (by kernel_rfl) (by kernel_rfl) (by kernel_rfl) (fun _ _ _ h => h) rfl (by first | exact M.out | exact M.out.take 4)
        case' hy =>
          refine Or.inl ⟨by first | rfl | (go_simp; done), ?_⟩
          intro w hS
          clear hS
          go_simp
          try with_reducible rfl
        try simp only [Act.put, List.getElem_toArray, List.getElem_cons_succ, List.getElem_cons_zero, List.setIfInBounds_toArray, List.set_cons_succ, List.set_cons_zero]
        apply takeH (i := 8) 40 rfl (by kernel_rfl) (by kernel_rfl) (by kernel_rfl) (fun _ _ _ h => h) rfl (by first | exact M.out | exact M.out.take 4)
        case' hy =>
          refine Or.inl ⟨by first | rfl | (go_simp; done), ?_⟩
          intro w hS
          clear hS
          go_simp
          try with_reducible rfl
        try simp only [Act.put, List.getElem_toArray, List.getElem_cons_succ, List.getElem_cons_zero, List.setIfInBounds_toArray, List.set_cons_succ, List.set_cons_zero]
        apply takeH (i := 9) 41 rfl (by kernel_rfl) (by kernel_rfl) (by kernel_rfl) (fun _ _ _ h => h) rfl (by first | exact M.out | exact M.out.take 4)
        case' hy =>
          refine Or.inl ⟨by first | rfl | (go_simp; done), ?_⟩
          intro w hS
          clear hS
          go_simp
          try with_reducible rfl
        try simp only [Act.put, List.getElem_toArray, List.getElem_cons_succ, List.getElem_cons_zero, List.setIfInBounds_toArray, List.set_cons_succ, List.set_cons_zero]
        refine any1H 10 (by kernel_rfl) rfl (fun K hK => ?_)
        go_wp2_with (first | ((with_reducible refine gate_dst (N := 33) rfl ?_); go_must (refine M.out.ev_ld 2 _ _ rfl rfl rfl Try.underlying2 rfl rfl (by first | assumption | rfl) ?_)) | ((with_reducible refine gate_dst (N := 37) rfl ?_); go_must (refine M.out.ev_ld 3 _ _ rfl rfl rfl Try.underlying2 rfl rfl (by first | assumption | rfl) ?_)) | ((with_reducible refine gate_dst (N := 36) rfl ?_); go_must (refine ev_get _ _ rfl rfl (M.out.row_cell 4 rfl HAT.out) Try.underlying26 rfl rfl ?_)) | ((with_reducible refine gate_store (x := .tmp 41) rfl ?_); go_must (refine M.out.ev_rput1 4 _ _ _ rfl rfl rfl rfl (.int .i16 (xs[j].birds - b)) rfl (by rw [HLL.out]; omega) sz26 rfl rfl ?_); intro wn m; simp only [List.set_cons_succ, List.set_cons_zero] at m; have M := Lib.hid m; clear m))
        refine onward_normal (hK _ _ ⟨(by first | exact M.out | exact M.out.take 4), ?_⟩)
        clear hK K
        try simp only [Act.put, List.getElem_toArray, List.getElem_cons_succ, List.getElem_cons_zero, List.setIfInBounds_toArray, List.set_cons_succ, List.set_cons_zero]
        refine wpAnyH_done (by kernel_rfl) ?_ _
        all_goals
          have q1 := M.out.cell (j := 0) (v := .slice (some ⟨b', off, none⟩) xs.length n) 1 rfl rfl
          have q3 := M.out.cell (j := 0) (v := .int .i64 b) 3 rfl rfl
          go_wp2_with (first
            | ((with_reducible refine gate_store (x := .tmp 48) rfl ?_); go_must (refine M.out.ev_rput1 4 _ _ _ rfl rfl rfl rfl (.int .i16 b) rfl (by rw [List.length_set, HLL.out]; omega) sz26 rfl rfl ?_); intro wn m; simp only [List.set_cons_succ, List.set_cons_zero] at m; have M := Lib.hid m; clear m)
            )
          go_ret2
          have m := M.out.only [4] (K := [.row _ 48 6 (xs.length + 1) _]) rfl (by decide)
          rw [sp_flat hj b] at m
          have hac : spCode F xs j b = 0 := by simp [spCode, HD.out, H12.out]
          have hrl : (spAt xs j b).length = xs.length + 1 := by rw [← sp_list hj]; simp
          rw [spRes, hac, if_pos rfl, Int.toNat_natCast, hrl]
          exact ⟨_, _, rfl, hcap, m⟩
  · have HD := Lib.hid hd
    have hdd : (flCode F xs i (spFine xs i b) != 0) = true := by simp [hd]
    have HAC := Lib.hid (show spCode F xs i b = flCode F xs i (spFine xs i b) by rw [spCode, if_pos hd])
    clear hd
    go_enter Try.func25, Try.ntmps25
    go_wp2_with (first
      | ((with_reducible refine gate_dst (N := 4) rfl ?_); go_must (refine M.out.ev_new rfl (by first | (go_simp; done) | (go_simp; rfl)) ?_); intro g4 w4 m; simp only [List.cons_append, List.nil_append] at m; have M := Lib.hid m; clear m; try have q1_0 := M.out.cell (j := 0) 1 rfl (by first | assumption | rfl); try have q2_0 := M.out.cell (j := 0) 2 rfl (by first | assumption | rfl); try have q3_0 := M.out.cell (j := 0) 3 rfl (by first | assumption | rfl))
      | ((with_reducible refine gate_dst (N := 5) rfl ?_); go_must (refine M.out.ev_new rfl (by first | (go_simp; done) | (go_simp; rfl)) ?_); intro g5 w5 m; simp only [List.cons_append, List.nil_append] at m; have M := Lib.hid m; clear m; try have q1_0 := M.out.cell (j := 0) 1 rfl (by first | assumption | rfl); try have q2_0 := M.out.cell (j := 0) 2 rfl (by first | assumption | rfl); try have q3_0 := M.out.cell (j := 0) 3 rfl (by first | assumption | rfl))
      | ((with_reducible refine gate_dst (N := 6) rfl ?_); go_must (refine M.out.ev_new rfl (by first | (go_simp; done) | (go_simp; rfl)) ?_); intro g6 w6 m; simp only [List.cons_append, List.nil_append] at m; have M := Lib.hid m; clear m; try have q1_0 := M.out.cell (j := 0) 1 rfl (by first | assumption | rfl); try have q2_0 := M.out.cell (j := 0) 2 rfl (by first | assumption | rfl); try have q3_0 := M.out.cell (j := 0) 3 rfl (by first | assumption | rfl))
      | ((with_reducible refine gate_dst (N := 7) rfl ?_); go_must (refine M.out.ev_new rfl (by first | (go_simp; done) | (go_simp; rfl)) ?_); intro g7 w7 m; simp only [List.cons_append, List.nil_append] at m; have M := Lib.hid m; clear m; try have q1_0 := M.out.cell (j := 0) 1 rfl (by first | assumption | rfl); try have q2_0 := M.out.cell (j := 0) 2 rfl (by first | assumption | rfl); try have q3_0 := M.out.cell (j := 0) 3 rfl (by first | assumption | rfl))
      | ((with_reducible refine gate_dst (N := 12) rfl ?_); go_must (refine M.out.ev_ld 1 _ _ rfl rfl rfl Try.underlying33 rfl rfl (by first | assumption | rfl) ?_))
      | ((with_reducible refine gate_dst (N := 13) rfl ?_); go_must (refine M.out.ev_ld 2 _ _ rfl rfl rfl Try.underlying2 rfl rfl (by first | assumption | rfl) ?_))
      | ((with_reducible refine gate_dst (N := 21) rfl ?_); go_must (refine M.out.ev_ld 1 _ _ rfl rfl rfl Try.underlying33 rfl rfl (by first | assumption | rfl) ?_))
      | ((with_reducible refine gate_dst (N := 24) rfl ?_); go_must (refine M.out.ev_ld 1 _ _ rfl rfl rfl Try.underlying33 rfl rfl (by first | assumption | rfl) ?_))
      | ((with_reducible refine gate_dst (N := 26) rfl ?_); go_must (refine M.out.ev_ld 1 _ _ rfl rfl rfl Try.underlying33 rfl rfl (by first | assumption | rfl) ?_))
      | ((with_reducible refine gate_dst (N := 27) rfl ?_); go_must (refine M.out.ev_ld 2 _ _ rfl rfl rfl Try.underlying2 rfl rfl (by first | assumption | rfl) ?_))
      | ((with_reducible refine gate_dst (N := 33) rfl ?_); go_must (refine M.out.ev_ld 2 _ _ rfl rfl rfl Try.underlying2 rfl rfl (by first | assumption | rfl) ?_))
      | ((with_reducible refine gate_dst (N := 37) rfl ?_); go_must (refine M.out.ev_ld 3 _ _ rfl rfl rfl Try.underlying2 rfl rfl (by first | assumption | rfl) ?_))
      | ((with_reducible refine gate_dst (N := 43) rfl ?_); go_must (refine M.out.ev_ld 1 _ _ rfl rfl rfl Try.underlying33 rfl rfl (by first | assumption | rfl) ?_))
      | ((with_reducible refine gate_dst (N := 45) rfl ?_); go_must (refine M.out.ev_ld 3 _ _ rfl rfl rfl Try.underlying2 rfl rfl (by first | assumption | rfl) ?_))
      | (go_at_call 53; go_must (refine (flockCode_any _ F HF.out A n xs HX.out hl i 54 _ (spFine xs i b) _ (M.out.blk 0 rfl) (M.out.sl HS.out) (fun _ _ => by go_simp) (fun hq w1 m1 => spIs_any _ _ _ A n F xs HX.out hl i b hq w1 ((M.out.join m1).blk 3 rfl) ((M.out.join m1).blk 1 rfl) ((M.out.join m1).blk 2 rfl) ((M.out.join m1).sl HS.out))).mono ?_); rintro e w_ ⟨rfl, N_⟩; have m := M.out.join N_; clear N_; simp only [List.cons_append, List.nil_append, List.append_nil] at m; have M := Lib.hid m; clear m; have q1 := M.out.cell (j := 0) (v := .slice A xs.length n) 1 rfl rfl; have q2 := M.out.cell (j := 0) (v := .int .i64 i) 2 rfl rfl; have q3 := M.out.cell (j := 0) (v := .int .i64 b) 3 rfl rfl)
      )
    go_ret2
    have m := (M.out.take 0).nilrow 48 6
    rw [spRes, HAC.out, if_neg HD.out]
    exact ⟨none, 0, rfl, Nat.le_refl _, m⟩
end Go.Proofs.Ytlonbgomdabmmaa
