/- Some birds of a flock that are put into a new one: the walks of both, and of the law. -/
import Derived.Test.YtbjcajhbhicokaaMoveF2
import Derived.Test.YtbjcajhbhicokaaCellsFor
import Derived.Test.YtbjcajhbhicokaaGen2
namespace Go.Proofs.Ytbjcajhbhicokaa
set_option linter.unusedSimpArgs false
set_option linter.unusedVariables false
open Go.RowKit
attribute [local go_sem] cell?_mk frozen?_mk

def spFine (xs : List Flock) (i b : Int) : Bool := match xs[i.toNat]? with | some x => inB b 0 x.birds | none => false
def spCode (F : Fld) (xs : List Flock) (i b : Int) : Int := if flCode F xs i (spFine xs i b) ≠ 0 then flCode F xs i (spFine xs i b) else if xs.length = 12 then 3 else 0
def spAt (xs : List Flock) (j : Nat) (b : Int) : List Flock := match xs[j]? with | some x => xs.set j { x with birds := x.birds - b } ++ [{ x with birds := b }] | none => []
def spRes (F : Fld) (xs : List Flock) (i b : Int) : List Flock := if spCode F xs i b = 0 then spAt xs i.toNat b else []
theorem spAt_len (xs : List Flock) (j : Nat) (b : Int) : (spAt xs j b).length ≤ xs.length + 1 := by
  unfold spAt
  split <;> simp
theorem SplitFlock_small (F : Fld) (xs : List Flock) (i b : Int) (h : xs.length ≤ 1048576) : (spRes F xs i b).length ≤ 1048576 := by
  unfold spRes
  split
  · rename_i h0
    have h12 : xs.length ≤ 12 := by
      unfold spCode at h0
      split at h0
      · rename_i h1; exact absurd h0 h1
      · rename_i h1
        simp only [ne_eq, Decidable.not_not] at h1
        have := (flCode_0 h1).2.1
        rw [flocksOk, Bool.and_eq_true, decide_eq_true_eq] at this
        exact this.2
    have := spAt_len xs i.toNat b
    omega
  · simp
theorem sp_list {xs : List Flock} {j : Nat} (hj : j < xs.length) (b : Int) : ((xs ++ [xs[j]]).set j { xs[j] with birds := xs[j].birds - b }).set xs.length { xs[j] with birds := b } = spAt xs j b := by
  have h : xs[j]? = some xs[j] := List.getElem?_eq_getElem hj
  have h2 : spAt xs j b = xs.set j { xs[j] with birds := xs[j].birds - b } ++ [{ xs[j] with birds := b }] := by simp [spAt, h]
  rw [h2, List.set_append_left _ _ hj, List.set_append_right _ _ (by simp), List.length_set, Nat.sub_self]
  rfl
theorem sp_flat {xs : List Flock} {j : Nat} (hj : j < xs.length) (b : Int) : ((flat Flock.vals xs ++ xs[j].vals).set (j * 6 + 1) (.int .i16 (xs[j].birds - b))).set (xs.length * 6 + 1) (.int .i16 b) = flat Flock.vals (spAt xs j b) := by
  have h : (xs ++ [xs[j]])[j]? = some xs[j] := by rw [List.getElem?_append_left hj]; exact List.getElem?_eq_getElem hj
  have h1 := flat_put Flock.vl (by decide : 1 < 6) (v := .int .i16 (xs[j].birds - b)) (xs ++ [xs[j]]) j xs[j] { xs[j] with birds := xs[j].birds - b } h rfl
  have h2 := flat_put Flock.vl (by decide : 1 < 6) (v := .int .i16 b) ((xs ++ [xs[j]]).set j { xs[j] with birds := xs[j].birds - b }) xs.length xs[j] { xs[j] with birds := b } (by rw [List.getElem?_set_ne (by omega), List.getElem?_append_right (Nat.le_refl _), Nat.sub_self]; rfl) rfl
  rw [← sp_list hj, ← h2, ← h1, flat_snoc]
set_option maxRecDepth 100000 in
set_option maxHeartbeats 1000000 in
theorem spIs_any (g h k : Nat) {t t' t'' : TypeId} (A : Option Addr) (n : Nat) (F : Fld) (xs : List Flock) (hx : ∀ x ∈ xs, x.ok) (hl : xs.length ≤ 1048576) (i b : Int) (hq : flIdx F xs i = true) (w : World) (h1 : Blk w g t #[.int .i64 b]) (h2 : Blk w h t' #[.slice A xs.length n]) (h3 : Blk w k t'' #[.int .i64 i]) (hs : Sl w 6 A xs.length (flat Flock.vals xs)) :
    Calls Try.prog 91 #[.pointer (some ⟨g, 0, none⟩), .pointer (some ⟨h, 0, none⟩), .pointer (some ⟨k, 0, none⟩)] w fun e w' => e = .returned (.bool (spFine xs i b)) ∧ Mem w w' [] := by
  have M := Lib.hid (Mem.start w)
  have y1 := h1.cellv (i := 0) rfl
  have y2 := h2.cellv (i := 0) rfl
  have y3 := h3.cellv (i := 0) rfl
  rw [flIdx, Bool.and_eq_true] at hq
  obtain ⟨p0, p1⟩ := inB_iff.1 hq.2
  obtain ⟨j, rfl⟩ : ∃ j : Nat, i = j := ⟨i.toNat, by omega⟩
  have hj : j < xs.length := by omega
  have i0 : (0 : Int) ≤ (j : Int) := by omega
  have i1 : (j : Int) < (xs.length : Int) := by omega
  obtain ⟨b', off, rfl, hr⟩ := hs.2 (by omega)
  have hxj : xs[j]? = some xs[j] := List.getElem?_eq_getElem hj
  have y4 : w.cell? ⟨b', off + j * 6 + 1, none⟩ = some (.int .i16 xs[j].birds) := range_at Flock.vl hr hxj 1 _ rfl
  obtain ⟨o0, o1⟩ := (hx xs[j] (List.getElem_mem hj)).birds
  have e1 : IntKind.i64.wrap xs[j].birds = xs[j].birds := IntWalk.i64_in _ (by omega)
  have HR := Lib.hid (show spFine xs j b = inB b 0 xs[j].birds by simp [spFine, hxj])
  clear h1 h2 h3 hs hr hxj hx hq
  go_enter Try.func91, Try.ntmps91
  go_wp2_with fail
  go_quiet ((refine Calls.quiet_of_same (v := .bool (inB b 0 xs[j].birds)) ?_; exact (within_any _ _ _ _).mono fun _ _ h => ⟨h.1, h.2.symm⟩))
  have M := Lib.hid (M.out.drewN nq)
  go_wp2
  go_ret
  exact ⟨ret_bool (by rw [HR.out]), M.out⟩
set_option maxRecDepth 100000 in
set_option maxHeartbeats 4000000 in
theorem impl_SplitFlock_any (F : Fld) (hF : F.ok) (A : Option Addr) (n : Nat) (xs : List Flock) (hx : ∀ x ∈ xs, x.ok) (hl : xs.length ≤ 1048576) (hc : xs.length ≤ n) (hn : n ≤ 9223372036854775807) (hA : A = none → n = 0) (i b : Int) (w : World) (hs : Sl w 6 A xs.length (flat Flock.vals xs)) :
    Calls Try.prog 41 #[.agg F.cells, .slice A xs.length n, .int .i64 i, .int .i64 b] w (RetRowC w 39 6 (spRes F xs i b).length (flat Flock.vals (spRes F xs i b)) (spCode F xs i b)) := by
  have M := Lib.hid (Mem.start w)
  have HX := Lib.hid hx
  have HS := Lib.hid hs
  have HF := Lib.hid hF
  have S1 := Lib.hid (Fld.size hF.toLen)
  clear hx hs hF
  by_cases hd : flCode F xs i (spFine xs i b) = 0
  · obtain ⟨h1, h2, h3, h4⟩ := flCode_0 hd
    have HD := Lib.hid hd
    obtain ⟨p0, p1⟩ := inB_iff.1 h3
    obtain ⟨j, rfl⟩ : ∃ j : Nat, i = j := ⟨i.toNat, by omega⟩
    have hj : j < xs.length := by omega
    have i0 : (0 : Int) ≤ (j : Int) := by omega
    have i1 : (j : Int) < (xs.length : Int) := by omega
    have i2 : (0 : Int) ≤ (xs.length : Int) := by omega
    have i3 : (j : Int) < (xs.length : Int) + 1 := by omega
    have i4 : (xs.length : Int) < (xs.length : Int) + 1 := by omega
    have i5 : (j : Int) ≤ (xs.length : Int) := by omega
    have i8 : j < xs.length + 1 := by omega
    have i9 : j ≤ xs.length := by omega
    have i6 : (j : Int) < ((xs.length + 1 : Nat) : Int) := by omega
    have i7 : (xs.length : Int) < ((xs.length + 1 : Nat) : Int) := by omega
    have hxj : xs[j]? = some xs[j] := List.getElem?_eq_getElem hj
    obtain ⟨b', off, rfl, hr⟩ := HS.out.2 (by omega)
    have R := Lib.hid (range_at Flock.vl hr hxj)
    obtain ⟨o0, o1⟩ := (HX.out xs[j] (List.getElem_mem hj)).birds
    have hq : inB b 0 xs[j].birds = true := by simpa [spFine, hxj] using h4
    obtain ⟨q0, q1⟩ := inB_iff.1 hq
    have e1 : IntKind.i16.wrap b = b := IntWalk.i16_in _ (by omega)
    have e2 : IntKind.i16.wrap (xs[j].birds - b) = xs[j].birds - b := IntWalk.i16_in _ (by omega)
    have HL := Lib.hid (flat_len Flock.vl xs)
    clear h1 h2 h3 h4 hd hxj hq hr
    by_cases h12 : xs.length = 12
    · have H12 := Lib.hid h12
      have hb12 : ((xs.length : Int) == 12) = true := by simp [h12]
      clear h12
      go_enter Try.func41, Try.ntmps41
      go_wp2_with (first
        | ((with_reducible refine gate_dst (N := 4) rfl ?_); go_must (refine M.out.ev_new rfl (by first | (go_simp; done) | (go_simp; rfl)) ?_); intro g4 w4 m; simp only [List.cons_append, List.nil_append] at m; have M := Lib.hid m; clear m; try have q1_0 := M.out.cell (j := 0) 1 rfl (by first | assumption | rfl); try have q2_0 := M.out.cell (j := 0) 2 rfl (by first | assumption | rfl); try have q3_0 := M.out.cell (j := 0) 3 rfl (by first | assumption | rfl))
        | ((with_reducible refine gate_dst (N := 5) rfl ?_); go_must (refine M.out.ev_new rfl (by first | (go_simp; done) | (go_simp; rfl)) ?_); intro g5 w5 m; simp only [List.cons_append, List.nil_append] at m; have M := Lib.hid m; clear m; try have q1_0 := M.out.cell (j := 0) 1 rfl (by first | assumption | rfl); try have q2_0 := M.out.cell (j := 0) 2 rfl (by first | assumption | rfl); try have q3_0 := M.out.cell (j := 0) 3 rfl (by first | assumption | rfl))
        | ((with_reducible refine gate_dst (N := 6) rfl ?_); go_must (refine M.out.ev_new rfl (by first | (go_simp; done) | (go_simp; rfl)) ?_); intro g6 w6 m; simp only [List.cons_append, List.nil_append] at m; have M := Lib.hid m; clear m; try have q1_0 := M.out.cell (j := 0) 1 rfl (by first | assumption | rfl); try have q2_0 := M.out.cell (j := 0) 2 rfl (by first | assumption | rfl); try have q3_0 := M.out.cell (j := 0) 3 rfl (by first | assumption | rfl))
        | ((with_reducible refine gate_dst (N := 7) rfl ?_); go_must (refine M.out.ev_new rfl (by first | (go_simp; done) | (go_simp; rfl)) ?_); intro g7 w7 m; simp only [List.cons_append, List.nil_append] at m; have M := Lib.hid m; clear m; try have q1_0 := M.out.cell (j := 0) 1 rfl (by first | assumption | rfl); try have q2_0 := M.out.cell (j := 0) 2 rfl (by first | assumption | rfl); try have q3_0 := M.out.cell (j := 0) 3 rfl (by first | assumption | rfl))
        | ((with_reducible refine gate_dst (N := 12) rfl ?_); go_must (refine M.out.ev_ld 1 _ _ rfl rfl rfl Try.underlying61 rfl rfl (by first | assumption | rfl) ?_))
        | ((with_reducible refine gate_dst (N := 13) rfl ?_); go_must (refine M.out.ev_ld 2 _ _ rfl rfl rfl Try.underlying2 rfl rfl (by first | assumption | rfl) ?_))
        | ((with_reducible refine gate_dst (N := 21) rfl ?_); go_must (refine M.out.ev_ld 1 _ _ rfl rfl rfl Try.underlying61 rfl rfl (by first | assumption | rfl) ?_))
        | ((with_reducible refine gate_dst (N := 24) rfl ?_); go_must (refine M.out.ev_ld 1 _ _ rfl rfl rfl Try.underlying61 rfl rfl (by first | assumption | rfl) ?_))
        | ((with_reducible refine gate_dst (N := 26) rfl ?_); go_must (refine M.out.ev_ld 1 _ _ rfl rfl rfl Try.underlying61 rfl rfl (by first | assumption | rfl) ?_))
        | ((with_reducible refine gate_dst (N := 27) rfl ?_); go_must (refine M.out.ev_ld 2 _ _ rfl rfl rfl Try.underlying2 rfl rfl (by first | assumption | rfl) ?_))
        | ((with_reducible refine gate_dst (N := 33) rfl ?_); go_must (refine M.out.ev_ld 2 _ _ rfl rfl rfl Try.underlying2 rfl rfl (by first | assumption | rfl) ?_))
        | ((with_reducible refine gate_dst (N := 37) rfl ?_); go_must (refine M.out.ev_ld 3 _ _ rfl rfl rfl Try.underlying2 rfl rfl (by first | assumption | rfl) ?_))
        | ((with_reducible refine gate_dst (N := 43) rfl ?_); go_must (refine M.out.ev_ld 1 _ _ rfl rfl rfl Try.underlying61 rfl rfl (by first | assumption | rfl) ?_))
        | ((with_reducible refine gate_dst (N := 45) rfl ?_); go_must (refine M.out.ev_ld 3 _ _ rfl rfl rfl Try.underlying2 rfl rfl (by first | assumption | rfl) ?_))
        | (go_at_call 85; go_must (refine (flockCode_any _ F HF.out _ n xs HX.out hl (j : Int) 91 _ (spFine xs (j : Int) b) _ (M.out.blk 0 rfl) (M.out.sl HS.out) (fun _ _ => by go_simp) (fun hq w1 m1 => spIs_any _ _ _ _ n F xs HX.out hl (j : Int) b hq w1 ((M.out.join m1).blk 3 rfl) ((M.out.join m1).blk 1 rfl) ((M.out.join m1).blk 2 rfl) ((M.out.join m1).sl HS.out))).mono ?_); rintro e w_ ⟨rfl, N_⟩; have m := M.out.join N_; clear N_; simp only [List.cons_append, List.nil_append, List.append_nil] at m; have M := Lib.hid m; clear m; rw [HD.out]; have q1 := M.out.cell (j := 0) (v := .slice _ xs.length n) 1 rfl rfl; have q2 := M.out.cell (j := 0) (v := .int .i64 (j : Int)) 2 rfl rfl; have q3 := M.out.cell (j := 0) (v := .int .i64 b) 3 rfl rfl)
        )
      go_ret2
      have m := (M.out.take 0).nilrow 39 6
      have hac : spCode F xs j b = 3 := by simp [spCode, HD.out, H12.out]
      rw [spRes, hac]
      exact ⟨none, 0, rfl, Nat.le_refl _, m⟩
    · have H12 := Lib.hid h12
      have hb12 : ((xs.length : Int) == 12) = false := by simp; omega
      clear h12
      go_enter Try.func41, Try.ntmps41
      go_wp2_with (first
        | ((with_reducible refine gate_dst (N := 4) rfl ?_); go_must (refine M.out.ev_new rfl (by first | (go_simp; done) | (go_simp; rfl)) ?_); intro g4 w4 m; simp only [List.cons_append, List.nil_append] at m; have M := Lib.hid m; clear m; try have q1_0 := M.out.cell (j := 0) 1 rfl (by first | assumption | rfl); try have q2_0 := M.out.cell (j := 0) 2 rfl (by first | assumption | rfl); try have q3_0 := M.out.cell (j := 0) 3 rfl (by first | assumption | rfl))
        | ((with_reducible refine gate_dst (N := 5) rfl ?_); go_must (refine M.out.ev_new rfl (by first | (go_simp; done) | (go_simp; rfl)) ?_); intro g5 w5 m; simp only [List.cons_append, List.nil_append] at m; have M := Lib.hid m; clear m; try have q1_0 := M.out.cell (j := 0) 1 rfl (by first | assumption | rfl); try have q2_0 := M.out.cell (j := 0) 2 rfl (by first | assumption | rfl); try have q3_0 := M.out.cell (j := 0) 3 rfl (by first | assumption | rfl))
        | ((with_reducible refine gate_dst (N := 6) rfl ?_); go_must (refine M.out.ev_new rfl (by first | (go_simp; done) | (go_simp; rfl)) ?_); intro g6 w6 m; simp only [List.cons_append, List.nil_append] at m; have M := Lib.hid m; clear m; try have q1_0 := M.out.cell (j := 0) 1 rfl (by first | assumption | rfl); try have q2_0 := M.out.cell (j := 0) 2 rfl (by first | assumption | rfl); try have q3_0 := M.out.cell (j := 0) 3 rfl (by first | assumption | rfl))
        | ((with_reducible refine gate_dst (N := 7) rfl ?_); go_must (refine M.out.ev_new rfl (by first | (go_simp; done) | (go_simp; rfl)) ?_); intro g7 w7 m; simp only [List.cons_append, List.nil_append] at m; have M := Lib.hid m; clear m; try have q1_0 := M.out.cell (j := 0) 1 rfl (by first | assumption | rfl); try have q2_0 := M.out.cell (j := 0) 2 rfl (by first | assumption | rfl); try have q3_0 := M.out.cell (j := 0) 3 rfl (by first | assumption | rfl))
        | ((with_reducible refine gate_dst (N := 12) rfl ?_); go_must (refine M.out.ev_ld 1 _ _ rfl rfl rfl Try.underlying61 rfl rfl (by first | assumption | rfl) ?_))
        | ((with_reducible refine gate_dst (N := 13) rfl ?_); go_must (refine M.out.ev_ld 2 _ _ rfl rfl rfl Try.underlying2 rfl rfl (by first | assumption | rfl) ?_))
        | ((with_reducible refine gate_dst (N := 21) rfl ?_); go_must (refine M.out.ev_ld 1 _ _ rfl rfl rfl Try.underlying61 rfl rfl (by first | assumption | rfl) ?_))
        | ((with_reducible refine gate_dst (N := 24) rfl ?_); go_must (refine M.out.ev_ld 1 _ _ rfl rfl rfl Try.underlying61 rfl rfl (by first | assumption | rfl) ?_))
        | ((with_reducible refine gate_dst (N := 26) rfl ?_); go_must (refine M.out.ev_ld 1 _ _ rfl rfl rfl Try.underlying61 rfl rfl (by first | assumption | rfl) ?_))
        | ((with_reducible refine gate_dst (N := 27) rfl ?_); go_must (refine M.out.ev_ld 2 _ _ rfl rfl rfl Try.underlying2 rfl rfl (by first | assumption | rfl) ?_))
        | ((with_reducible refine gate_dst (N := 33) rfl ?_); go_must (refine M.out.ev_ld 2 _ _ rfl rfl rfl Try.underlying2 rfl rfl (by first | assumption | rfl) ?_))
        | ((with_reducible refine gate_dst (N := 37) rfl ?_); go_must (refine M.out.ev_ld 3 _ _ rfl rfl rfl Try.underlying2 rfl rfl (by first | assumption | rfl) ?_))
        | ((with_reducible refine gate_dst (N := 43) rfl ?_); go_must (refine M.out.ev_ld 1 _ _ rfl rfl rfl Try.underlying61 rfl rfl (by first | assumption | rfl) ?_))
        | ((with_reducible refine gate_dst (N := 45) rfl ?_); go_must (refine M.out.ev_ld 3 _ _ rfl rfl rfl Try.underlying2 rfl rfl (by first | assumption | rfl) ?_))
        | (go_at_call 85; go_must (refine (flockCode_any _ F HF.out _ n xs HX.out hl (j : Int) 91 _ (spFine xs (j : Int) b) _ (M.out.blk 0 rfl) (M.out.sl HS.out) (fun _ _ => by go_simp) (fun hq w1 m1 => spIs_any _ _ _ _ n F xs HX.out hl (j : Int) b hq w1 ((M.out.join m1).blk 3 rfl) ((M.out.join m1).blk 1 rfl) ((M.out.join m1).blk 2 rfl) ((M.out.join m1).sl HS.out))).mono ?_); rintro e w_ ⟨rfl, N_⟩; have m := M.out.join N_; clear N_; simp only [List.cons_append, List.nil_append, List.append_nil] at m; have M := Lib.hid m; clear m; rw [HD.out]; have q1 := M.out.cell (j := 0) (v := .slice _ xs.length n) 1 rfl rfl; have q2 := M.out.cell (j := 0) (v := .int .i64 (j : Int)) 2 rfl rfl; have q3 := M.out.cell (j := 0) (v := .int .i64 b) 3 rfl rfl)
        )
      refine region_anyH (fun w' => Mem w w' [.blk g4 35 F.cells, .blk g5 61 #[.slice (some ⟨b', off, none⟩) xs.length n], .blk g6 2 #[.int .i64 j], .blk g7 2 #[.int .i64 b]]) (by kernel_rfl) ?_
      have m := M.out.drew
      clear M
      have M := Lib.hid m
      clear m
      apply takeH (i := 0) 24 rfl (by kernel_rfl) (by kernel_rfl) (by kernel_rfl) (fun _ _ _ h => h) rfl (by first | exact M.out | exact M.out.take 4)
      case' hy => exact ylds _ _ rfl rfl Try.underlying61 rfl rfl (fun w' hS => hS.cell 1 rfl (by first | assumption | rfl))
      try simp only [Act.put, List.getElem_toArray, List.getElem_cons_succ, List.getElem_cons_zero, List.setIfInBounds_toArray, List.set_cons_succ, List.set_cons_zero]
      apply takeH (i := 2) 26 rfl (by kernel_rfl) (by kernel_rfl) (by kernel_rfl) (fun _ _ _ h => h) rfl (by first | exact M.out | exact M.out.take 4)
      case' hy => exact ylds _ _ rfl rfl Try.underlying61 rfl rfl (fun w' hS => hS.cell 1 rfl (by first | assumption | rfl))
      try simp only [Act.put, List.getElem_toArray, List.getElem_cons_succ, List.getElem_cons_zero, List.setIfInBounds_toArray, List.set_cons_succ, List.set_cons_zero]
      apply takeH (i := 3) 27 rfl (by kernel_rfl) (by kernel_rfl) (by kernel_rfl) (fun _ _ _ h => h) rfl (by first | exact M.out | exact M.out.take 4)
      case' hy => exact ylds _ _ rfl rfl Try.underlying2 rfl rfl (fun w' hS => hS.cell 2 rfl (by first | assumption | rfl))
      try simp only [Act.put, List.getElem_toArray, List.getElem_cons_succ, List.getElem_cons_zero, List.setIfInBounds_toArray, List.set_cons_succ, List.set_cons_zero]
      apply takeH (i := 4) 28 rfl (by kernel_rfl) (by kernel_rfl) (by kernel_rfl) (fun _ _ _ h => h) rfl (by first | exact M.out | exact M.out.take 4)
      case' hy =>
        refine Or.inl ⟨by first | rfl | (go_simp; done), ?_⟩
        intro w hS
        clear hS
        go_simp
        try with_reducible rfl
      try simp only [Act.put, List.getElem_toArray, List.getElem_cons_succ, List.getElem_cons_zero, List.setIfInBounds_toArray, List.set_cons_succ, List.set_cons_zero]
      refine any2H 1 5 (by kernel_rfl) rfl rfl (fun K hK => ?_) (fun K hK => ?_)
      rotate_right 1
      case' _ =>
        go_wp2_with (first | ((with_reducible refine gate_dst (N := 24) rfl ?_); go_must (refine M.out.ev_ld 1 _ _ rfl rfl rfl Try.underlying61 rfl rfl (by first | assumption | rfl) ?_)) | ((with_reducible refine gate_dst (N := 26) rfl ?_); go_must (refine M.out.ev_ld 1 _ _ rfl rfl rfl Try.underlying61 rfl rfl (by first | assumption | rfl) ?_)) | ((with_reducible refine gate_dst (N := 27) rfl ?_); go_must (refine M.out.ev_ld 2 _ _ rfl rfl rfl Try.underlying2 rfl rfl (by first | assumption | rfl) ?_)) | (go_at_call 88; go_must (refine (cloneFlock_any _ n xs hl hc hA _ (M.out.sl HS.out)).mono ?_); rintro e w_ ⟨A_, c_, rfl, hc_, N_⟩; have m := M.out.join N_; clear N_; simp only [List.cons_append, List.nil_append, List.append_nil] at m; have M := Lib.hid m; clear m) | ((with_reducible refine gate_dst (N := 29) rfl ?_); go_must (refine ev_ldr _ _ rfl rfl (M.out.argrange R.out) Try.underlying39 rfl (by first | exact sz39 | (rw [S1.out]; exact sz39)) rfl ?_)) | ((with_reducible refine gate_dst (N := 30) rfl ?_); go_must (refine M.out.ev_bs1 elem_Flock rfl _ rfl xs[j].vals.toArray rfl rfl (by decide) ?_); intro g30 w30 m; simp only [List.cons_append, List.nil_append] at m; have M := Lib.hid m; clear m) | ((with_reducible refine gate_dst (N := 31) rfl ?_); go_must (first | (refine M.out.ev_append1 4 5 elem_Flock rfl _ _ rfl rfl rfl rfl rfl rfl (Flock.one _) (by omega) (by decide) ?_) | (refine M.out.ev_append1 5 4 elem_Flock rfl _ _ rfl rfl rfl rfl rfl rfl (Flock.one _) (by omega) (by decide) ?_)); intro v31 w31 m; simp only [List.set_cons_succ, List.set_cons_zero] at m; have M := Lib.hid m; clear m))
        refine onward_normal (hK _ _ ⟨(by first | exact M.out | exact M.out.take 4), ?_⟩)
        clear hK K
        try simp only [Act.put, List.getElem_toArray, List.getElem_cons_succ, List.getElem_cons_zero, List.setIfInBounds_toArray, List.set_cons_succ, List.set_cons_zero]
        refine any2H 1 6 (by kernel_rfl) rfl rfl (fun K hK => ?_) (fun K hK => ?_)
        rotate_right 1
        case' _ =>
          go_wp2_with (first | ((with_reducible refine gate_dst (N := 24) rfl ?_); go_must (refine M.out.ev_ld 1 _ _ rfl rfl rfl Try.underlying61 rfl rfl (by first | assumption | rfl) ?_)) | ((with_reducible refine gate_dst (N := 26) rfl ?_); go_must (refine M.out.ev_ld 1 _ _ rfl rfl rfl Try.underlying61 rfl rfl (by first | assumption | rfl) ?_)) | ((with_reducible refine gate_dst (N := 27) rfl ?_); go_must (refine M.out.ev_ld 2 _ _ rfl rfl rfl Try.underlying2 rfl rfl (by first | assumption | rfl) ?_)) | (go_at_call 88; go_must (refine (cloneFlock_any _ n xs hl hc hA _ (M.out.sl HS.out)).mono ?_); rintro e w_ ⟨A_, c_, rfl, hc_, N_⟩; have m := M.out.join N_; clear N_; simp only [List.cons_append, List.nil_append, List.append_nil] at m; have M := Lib.hid m; clear m) | ((with_reducible refine gate_dst (N := 29) rfl ?_); go_must (refine ev_ldr _ _ rfl rfl (M.out.argrange R.out) Try.underlying39 rfl (by first | exact sz39 | (rw [S1.out]; exact sz39)) rfl ?_)) | ((with_reducible refine gate_dst (N := 30) rfl ?_); go_must (refine M.out.ev_bs1 elem_Flock rfl _ rfl xs[j].vals.toArray rfl rfl (by decide) ?_); intro g30 w30 m; simp only [List.cons_append, List.nil_append] at m; have M := Lib.hid m; clear m) | ((with_reducible refine gate_dst (N := 31) rfl ?_); go_must (first | (refine M.out.ev_append1 4 5 elem_Flock rfl _ _ rfl rfl rfl rfl rfl rfl (Flock.one _) (by omega) (by decide) ?_) | (refine M.out.ev_append1 5 4 elem_Flock rfl _ _ rfl rfl rfl rfl rfl rfl (Flock.one _) (by omega) (by decide) ?_)); intro v31 w31 m; simp only [List.set_cons_succ, List.set_cons_zero] at m; have M := Lib.hid m; clear m))
          refine onward_normal (hK _ _ ⟨(by first | exact M.out | exact M.out.take 4), ?_⟩)
          clear hK K
          try simp only [Act.put, List.getElem_toArray, List.getElem_cons_succ, List.getElem_cons_zero, List.setIfInBounds_toArray, List.set_cons_succ, List.set_cons_zero]
          refine any1H 1 (by kernel_rfl) rfl (fun K hK => ?_)
          go_wp2_with (first | ((with_reducible refine gate_dst (N := 24) rfl ?_); go_must (refine M.out.ev_ld 1 _ _ rfl rfl rfl Try.underlying61 rfl rfl (by first | assumption | rfl) ?_)) | ((with_reducible refine gate_dst (N := 26) rfl ?_); go_must (refine M.out.ev_ld 1 _ _ rfl rfl rfl Try.underlying61 rfl rfl (by first | assumption | rfl) ?_)) | ((with_reducible refine gate_dst (N := 27) rfl ?_); go_must (refine M.out.ev_ld 2 _ _ rfl rfl rfl Try.underlying2 rfl rfl (by first | assumption | rfl) ?_)) | (go_at_call 88; go_must (refine (cloneFlock_any _ n xs hl hc hA _ (M.out.sl HS.out)).mono ?_); rintro e w_ ⟨A_, c_, rfl, hc_, N_⟩; have m := M.out.join N_; clear N_; simp only [List.cons_append, List.nil_append, List.append_nil] at m; have M := Lib.hid m; clear m) | ((with_reducible refine gate_dst (N := 29) rfl ?_); go_must (refine ev_ldr _ _ rfl rfl (M.out.argrange R.out) Try.underlying39 rfl (by first | exact sz39 | (rw [S1.out]; exact sz39)) rfl ?_)) | ((with_reducible refine gate_dst (N := 30) rfl ?_); go_must (refine M.out.ev_bs1 elem_Flock rfl _ rfl xs[j].vals.toArray rfl rfl (by decide) ?_); intro g30 w30 m; simp only [List.cons_append, List.nil_append] at m; have M := Lib.hid m; clear m) | ((with_reducible refine gate_dst (N := 31) rfl ?_); go_must (first | (refine M.out.ev_append1 4 5 elem_Flock rfl _ _ rfl rfl rfl rfl rfl rfl (Flock.one _) (by omega) (by decide) ?_) | (refine M.out.ev_append1 5 4 elem_Flock rfl _ _ rfl rfl rfl rfl rfl rfl (Flock.one _) (by omega) (by decide) ?_)); intro v31 w31 m; simp only [List.set_cons_succ, List.set_cons_zero] at m; have M := Lib.hid m; clear m))
          refine onward_normal (hK _ _ ⟨(by first | exact M.out | exact M.out.take 4), ?_⟩)
          clear hK K
          try simp only [Act.put, List.getElem_toArray, List.getElem_cons_succ, List.getElem_cons_zero, List.setIfInBounds_toArray, List.set_cons_succ, List.set_cons_zero]
          refine any1H 7 (by kernel_rfl) rfl (fun K hK => ?_)
          go_wp2_with (first | ((with_reducible refine gate_dst (N := 24) rfl ?_); go_must (refine M.out.ev_ld 1 _ _ rfl rfl rfl Try.underlying61 rfl rfl (by first | assumption | rfl) ?_)) | ((with_reducible refine gate_dst (N := 26) rfl ?_); go_must (refine M.out.ev_ld 1 _ _ rfl rfl rfl Try.underlying61 rfl rfl (by first | assumption | rfl) ?_)) | ((with_reducible refine gate_dst (N := 27) rfl ?_); go_must (refine M.out.ev_ld 2 _ _ rfl rfl rfl Try.underlying2 rfl rfl (by first | assumption | rfl) ?_)) | (go_at_call 88; go_must (refine (cloneFlock_any _ n xs hl hc hA _ (M.out.sl HS.out)).mono ?_); rintro e w_ ⟨A_, c_, rfl, hc_, N_⟩; have m := M.out.join N_; clear N_; simp only [List.cons_append, List.nil_append, List.append_nil] at m; have M := Lib.hid m; clear m) | ((with_reducible refine gate_dst (N := 29) rfl ?_); go_must (refine ev_ldr _ _ rfl rfl (M.out.argrange R.out) Try.underlying39 rfl (by first | exact sz39 | (rw [S1.out]; exact sz39)) rfl ?_)) | ((with_reducible refine gate_dst (N := 30) rfl ?_); go_must (refine M.out.ev_bs1 elem_Flock rfl _ rfl xs[j].vals.toArray rfl rfl (by decide) ?_); intro g30 w30 m; simp only [List.cons_append, List.nil_append] at m; have M := Lib.hid m; clear m) | ((with_reducible refine gate_dst (N := 31) rfl ?_); go_must (first | (refine M.out.ev_append1 4 5 elem_Flock rfl _ _ rfl rfl rfl rfl rfl rfl (Flock.one _) (by omega) (by decide) ?_) | (refine M.out.ev_append1 5 4 elem_Flock rfl _ _ rfl rfl rfl rfl rfl rfl (Flock.one _) (by omega) (by decide) ?_)); intro v31 w31 m; simp only [List.set_cons_succ, List.set_cons_zero] at m; have M := Lib.hid m; clear m))
          refine onward_normal (hK _ _ ⟨(by first | exact M.out | exact M.out.take 4), ?_⟩)
          clear hK K
          try simp only [Act.put, List.getElem_toArray, List.getElem_cons_succ, List.getElem_cons_zero, List.setIfInBounds_toArray, List.set_cons_succ, List.set_cons_zero]
          apply takeH (i := 8) 11 rfl (by kernel_rfl) (by kernel_rfl) (by kernel_rfl) (fun _ _ _ h => h) rfl (by first | exact M.out | exact M.out.take 4)
          case' hy =>
            refine Or.inl ⟨by first | rfl | (go_simp; done), ?_⟩
            intro w hS
            clear hS
            go_simp
            try with_reducible rfl
          try simp only [Act.put, List.getElem_toArray, List.getElem_cons_succ, List.getElem_cons_zero, List.setIfInBounds_toArray, List.set_cons_succ, List.set_cons_zero]
          refine wpAnyH_done (by kernel_rfl) ?_ _
        rotate_right 1
        case' _ =>
          go_wp2_with (first | ((with_reducible refine gate_dst (N := 24) rfl ?_); go_must (refine M.out.ev_ld 1 _ _ rfl rfl rfl Try.underlying61 rfl rfl (by first | assumption | rfl) ?_)) | ((with_reducible refine gate_dst (N := 26) rfl ?_); go_must (refine M.out.ev_ld 1 _ _ rfl rfl rfl Try.underlying61 rfl rfl (by first | assumption | rfl) ?_)) | ((with_reducible refine gate_dst (N := 27) rfl ?_); go_must (refine M.out.ev_ld 2 _ _ rfl rfl rfl Try.underlying2 rfl rfl (by first | assumption | rfl) ?_)) | (go_at_call 88; go_must (refine (cloneFlock_any _ n xs hl hc hA _ (M.out.sl HS.out)).mono ?_); rintro e w_ ⟨A_, c_, rfl, hc_, N_⟩; have m := M.out.join N_; clear N_; simp only [List.cons_append, List.nil_append, List.append_nil] at m; have M := Lib.hid m; clear m) | ((with_reducible refine gate_dst (N := 29) rfl ?_); go_must (refine ev_ldr _ _ rfl rfl (M.out.argrange R.out) Try.underlying39 rfl (by first | exact sz39 | (rw [S1.out]; exact sz39)) rfl ?_)) | ((with_reducible refine gate_dst (N := 30) rfl ?_); go_must (refine M.out.ev_bs1 elem_Flock rfl _ rfl xs[j].vals.toArray rfl rfl (by decide) ?_); intro g30 w30 m; simp only [List.cons_append, List.nil_append] at m; have M := Lib.hid m; clear m) | ((with_reducible refine gate_dst (N := 31) rfl ?_); go_must (first | (refine M.out.ev_append1 4 5 elem_Flock rfl _ _ rfl rfl rfl rfl rfl rfl (Flock.one _) (by omega) (by decide) ?_) | (refine M.out.ev_append1 5 4 elem_Flock rfl _ _ rfl rfl rfl rfl rfl rfl (Flock.one _) (by omega) (by decide) ?_)); intro v31 w31 m; simp only [List.set_cons_succ, List.set_cons_zero] at m; have M := Lib.hid m; clear m))
          refine onward_normal (hK _ _ ⟨(by first | exact M.out | exact M.out.take 4), ?_⟩)
          clear hK K
          try simp only [Act.put, List.getElem_toArray, List.getElem_cons_succ, List.getElem_cons_zero, List.setIfInBounds_toArray, List.set_cons_succ, List.set_cons_zero]
          refine any1H 6 (by kernel_rfl) rfl (fun K hK => ?_)
          go_wp2_with (first | ((with_reducible refine gate_dst (N := 24) rfl ?_); go_must (refine M.out.ev_ld 1 _ _ rfl rfl rfl Try.underlying61 rfl rfl (by first | assumption | rfl) ?_)) | ((with_reducible refine gate_dst (N := 26) rfl ?_); go_must (refine M.out.ev_ld 1 _ _ rfl rfl rfl Try.underlying61 rfl rfl (by first | assumption | rfl) ?_)) | ((with_reducible refine gate_dst (N := 27) rfl ?_); go_must (refine M.out.ev_ld 2 _ _ rfl rfl rfl Try.underlying2 rfl rfl (by first | assumption | rfl) ?_)) | (go_at_call 88; go_must (refine (cloneFlock_any _ n xs hl hc hA _ (M.out.sl HS.out)).mono ?_); rintro e w_ ⟨A_, c_, rfl, hc_, N_⟩; have m := M.out.join N_; clear N_; simp only [List.cons_append, List.nil_append, List.append_nil] at m; have M := Lib.hid m; clear m) | ((with_reducible refine gate_dst (N := 29) rfl ?_); go_must (refine ev_ldr _ _ rfl rfl (M.out.argrange R.out) Try.underlying39 rfl (by first | exact sz39 | (rw [S1.out]; exact sz39)) rfl ?_)) | ((with_reducible refine gate_dst (N := 30) rfl ?_); go_must (refine M.out.ev_bs1 elem_Flock rfl _ rfl xs[j].vals.toArray rfl rfl (by decide) ?_); intro g30 w30 m; simp only [List.cons_append, List.nil_append] at m; have M := Lib.hid m; clear m) | ((with_reducible refine gate_dst (N := 31) rfl ?_); go_must (first | (refine M.out.ev_append1 4 5 elem_Flock rfl _ _ rfl rfl rfl rfl rfl rfl (Flock.one _) (by omega) (by decide) ?_) | (refine M.out.ev_append1 5 4 elem_Flock rfl _ _ rfl rfl rfl rfl rfl rfl (Flock.one _) (by omega) (by decide) ?_)); intro v31 w31 m; simp only [List.set_cons_succ, List.set_cons_zero] at m; have M := Lib.hid m; clear m))
          refine onward_normal (hK _ _ ⟨(by first | exact M.out | exact M.out.take 4), ?_⟩)
          clear hK K
          try simp only [Act.put, List.getElem_toArray, List.getElem_cons_succ, List.getElem_cons_zero, List.setIfInBounds_toArray, List.set_cons_succ, List.set_cons_zero]
          refine any1H 7 (by kernel_rfl) rfl (fun K hK => ?_)
          go_wp2_with (first | ((with_reducible refine gate_dst (N := 24) rfl ?_); go_must (refine M.out.ev_ld 1 _ _ rfl rfl rfl Try.underlying61 rfl rfl (by first | assumption | rfl) ?_)) | ((with_reducible refine gate_dst (N := 26) rfl ?_); go_must (refine M.out.ev_ld 1 _ _ rfl rfl rfl Try.underlying61 rfl rfl (by first | assumption | rfl) ?_)) | ((with_reducible refine gate_dst (N := 27) rfl ?_); go_must (refine M.out.ev_ld 2 _ _ rfl rfl rfl Try.underlying2 rfl rfl (by first | assumption | rfl) ?_)) | (go_at_call 88; go_must (refine (cloneFlock_any _ n xs hl hc hA _ (M.out.sl HS.out)).mono ?_); rintro e w_ ⟨A_, c_, rfl, hc_, N_⟩; have m := M.out.join N_; clear N_; simp only [List.cons_append, List.nil_append, List.append_nil] at m; have M := Lib.hid m; clear m) | ((with_reducible refine gate_dst (N := 29) rfl ?_); go_must (refine ev_ldr _ _ rfl rfl (M.out.argrange R.out) Try.underlying39 rfl (by first | exact sz39 | (rw [S1.out]; exact sz39)) rfl ?_)) | ((with_reducible refine gate_dst (N := 30) rfl ?_); go_must (refine M.out.ev_bs1 elem_Flock rfl _ rfl xs[j].vals.toArray rfl rfl (by decide) ?_); intro g30 w30 m; simp only [List.cons_append, List.nil_append] at m; have M := Lib.hid m; clear m) | ((with_reducible refine gate_dst (N := 31) rfl ?_); go_must (first | (refine M.out.ev_append1 4 5 elem_Flock rfl _ _ rfl rfl rfl rfl rfl rfl (Flock.one _) (by omega) (by decide) ?_) | (refine M.out.ev_append1 5 4 elem_Flock rfl _ _ rfl rfl rfl rfl rfl rfl (Flock.one _) (by omega) (by decide) ?_)); intro v31 w31 m; simp only [List.set_cons_succ, List.set_cons_zero] at m; have M := Lib.hid m; clear m))
          refine onward_normal (hK _ _ ⟨(by first | exact M.out | exact M.out.take 4), ?_⟩)
          clear hK K
          try simp only [Act.put, List.getElem_toArray, List.getElem_cons_succ, List.getElem_cons_zero, List.setIfInBounds_toArray, List.set_cons_succ, List.set_cons_zero]
          apply takeH (i := 8) 11 rfl (by kernel_rfl) (by kernel_rfl) (by kernel_rfl) (fun _ _ _ h => h) rfl (by first | exact M.out | exact M.out.take 4)
          case' hy =>
            refine Or.inl ⟨by first | rfl | (go_simp; done), ?_⟩
            intro w hS
            clear hS
            go_simp
            try with_reducible rfl
          try simp only [Act.put, List.getElem_toArray, List.getElem_cons_succ, List.getElem_cons_zero, List.setIfInBounds_toArray, List.set_cons_succ, List.set_cons_zero]
          refine wpAnyH_done (by kernel_rfl) ?_ _
      rotate_right 1
      case' _ =>
        go_wp2_with (first | ((with_reducible refine gate_dst (N := 24) rfl ?_); go_must (refine M.out.ev_ld 1 _ _ rfl rfl rfl Try.underlying61 rfl rfl (by first | assumption | rfl) ?_)) | ((with_reducible refine gate_dst (N := 26) rfl ?_); go_must (refine M.out.ev_ld 1 _ _ rfl rfl rfl Try.underlying61 rfl rfl (by first | assumption | rfl) ?_)) | ((with_reducible refine gate_dst (N := 27) rfl ?_); go_must (refine M.out.ev_ld 2 _ _ rfl rfl rfl Try.underlying2 rfl rfl (by first | assumption | rfl) ?_)) | (go_at_call 88; go_must (refine (cloneFlock_any _ n xs hl hc hA _ (M.out.sl HS.out)).mono ?_); rintro e w_ ⟨A_, c_, rfl, hc_, N_⟩; have m := M.out.join N_; clear N_; simp only [List.cons_append, List.nil_append, List.append_nil] at m; have M := Lib.hid m; clear m) | ((with_reducible refine gate_dst (N := 29) rfl ?_); go_must (refine ev_ldr _ _ rfl rfl (M.out.argrange R.out) Try.underlying39 rfl (by first | exact sz39 | (rw [S1.out]; exact sz39)) rfl ?_)) | ((with_reducible refine gate_dst (N := 30) rfl ?_); go_must (refine M.out.ev_bs1 elem_Flock rfl _ rfl xs[j].vals.toArray rfl rfl (by decide) ?_); intro g30 w30 m; simp only [List.cons_append, List.nil_append] at m; have M := Lib.hid m; clear m) | ((with_reducible refine gate_dst (N := 31) rfl ?_); go_must (first | (refine M.out.ev_append1 4 5 elem_Flock rfl _ _ rfl rfl rfl rfl rfl rfl (Flock.one _) (by omega) (by decide) ?_) | (refine M.out.ev_append1 5 4 elem_Flock rfl _ _ rfl rfl rfl rfl rfl rfl (Flock.one _) (by omega) (by decide) ?_)); intro v31 w31 m; simp only [List.set_cons_succ, List.set_cons_zero] at m; have M := Lib.hid m; clear m))
        refine onward_normal (hK _ _ ⟨(by first | exact M.out | exact M.out.take 4), ?_⟩)
        clear hK K
        try simp only [Act.put, List.getElem_toArray, List.getElem_cons_succ, List.getElem_cons_zero, List.setIfInBounds_toArray, List.set_cons_succ, List.set_cons_zero]
        refine any1H 5 (by kernel_rfl) rfl (fun K hK => ?_)
        go_wp2_with (first | ((with_reducible refine gate_dst (N := 24) rfl ?_); go_must (refine M.out.ev_ld 1 _ _ rfl rfl rfl Try.underlying61 rfl rfl (by first | assumption | rfl) ?_)) | ((with_reducible refine gate_dst (N := 26) rfl ?_); go_must (refine M.out.ev_ld 1 _ _ rfl rfl rfl Try.underlying61 rfl rfl (by first | assumption | rfl) ?_)) | ((with_reducible refine gate_dst (N := 27) rfl ?_); go_must (refine M.out.ev_ld 2 _ _ rfl rfl rfl Try.underlying2 rfl rfl (by first | assumption | rfl) ?_)) | (go_at_call 88; go_must (refine (cloneFlock_any _ n xs hl hc hA _ (M.out.sl HS.out)).mono ?_); rintro e w_ ⟨A_, c_, rfl, hc_, N_⟩; have m := M.out.join N_; clear N_; simp only [List.cons_append, List.nil_append, List.append_nil] at m; have M := Lib.hid m; clear m) | ((with_reducible refine gate_dst (N := 29) rfl ?_); go_must (refine ev_ldr _ _ rfl rfl (M.out.argrange R.out) Try.underlying39 rfl (by first | exact sz39 | (rw [S1.out]; exact sz39)) rfl ?_)) | ((with_reducible refine gate_dst (N := 30) rfl ?_); go_must (refine M.out.ev_bs1 elem_Flock rfl _ rfl xs[j].vals.toArray rfl rfl (by decide) ?_); intro g30 w30 m; simp only [List.cons_append, List.nil_append] at m; have M := Lib.hid m; clear m) | ((with_reducible refine gate_dst (N := 31) rfl ?_); go_must (first | (refine M.out.ev_append1 4 5 elem_Flock rfl _ _ rfl rfl rfl rfl rfl rfl (Flock.one _) (by omega) (by decide) ?_) | (refine M.out.ev_append1 5 4 elem_Flock rfl _ _ rfl rfl rfl rfl rfl rfl (Flock.one _) (by omega) (by decide) ?_)); intro v31 w31 m; simp only [List.set_cons_succ, List.set_cons_zero] at m; have M := Lib.hid m; clear m))
        refine onward_normal (hK _ _ ⟨(by first | exact M.out | exact M.out.take 4), ?_⟩)
        clear hK K
        try simp only [Act.put, List.getElem_toArray, List.getElem_cons_succ, List.getElem_cons_zero, List.setIfInBounds_toArray, List.set_cons_succ, List.set_cons_zero]
        refine any1H 6 (by kernel_rfl) rfl (fun K hK => ?_)
        go_wp2_with (first | ((with_reducible refine gate_dst (N := 24) rfl ?_); go_must (refine M.out.ev_ld 1 _ _ rfl rfl rfl Try.underlying61 rfl rfl (by first | assumption | rfl) ?_)) | ((with_reducible refine gate_dst (N := 26) rfl ?_); go_must (refine M.out.ev_ld 1 _ _ rfl rfl rfl Try.underlying61 rfl rfl (by first | assumption | rfl) ?_)) | ((with_reducible refine gate_dst (N := 27) rfl ?_); go_must (refine M.out.ev_ld 2 _ _ rfl rfl rfl Try.underlying2 rfl rfl (by first | assumption | rfl) ?_)) | (go_at_call 88; go_must (refine (cloneFlock_any _ n xs hl hc hA _ (M.out.sl HS.out)).mono ?_); rintro e w_ ⟨A_, c_, rfl, hc_, N_⟩; have m := M.out.join N_; clear N_; simp only [List.cons_append, List.nil_append, List.append_nil] at m; have M := Lib.hid m; clear m) | ((with_reducible refine gate_dst (N := 29) rfl ?_); go_must (refine ev_ldr _ _ rfl rfl (M.out.argrange R.out) Try.underlying39 rfl (by first | exact sz39 | (rw [S1.out]; exact sz39)) rfl ?_)) | ((with_reducible refine gate_dst (N := 30) rfl ?_); go_must (refine M.out.ev_bs1 elem_Flock rfl _ rfl xs[j].vals.toArray rfl rfl (by decide) ?_); intro g30 w30 m; simp only [List.cons_append, List.nil_append] at m; have M := Lib.hid m; clear m) | ((with_reducible refine gate_dst (N := 31) rfl ?_); go_must (first | (refine M.out.ev_append1 4 5 elem_Flock rfl _ _ rfl rfl rfl rfl rfl rfl (Flock.one _) (by omega) (by decide) ?_) | (refine M.out.ev_append1 5 4 elem_Flock rfl _ _ rfl rfl rfl rfl rfl rfl (Flock.one _) (by omega) (by decide) ?_)); intro v31 w31 m; simp only [List.set_cons_succ, List.set_cons_zero] at m; have M := Lib.hid m; clear m))
        refine onward_normal (hK _ _ ⟨(by first | exact M.out | exact M.out.take 4), ?_⟩)
        clear hK K
        try simp only [Act.put, List.getElem_toArray, List.getElem_cons_succ, List.getElem_cons_zero, List.setIfInBounds_toArray, List.set_cons_succ, List.set_cons_zero]
        refine any1H 7 (by kernel_rfl) rfl (fun K hK => ?_)
        go_wp2_with (first | ((with_reducible refine gate_dst (N := 24) rfl ?_); go_must (refine M.out.ev_ld 1 _ _ rfl rfl rfl Try.underlying61 rfl rfl (by first | assumption | rfl) ?_)) | ((with_reducible refine gate_dst (N := 26) rfl ?_); go_must (refine M.out.ev_ld 1 _ _ rfl rfl rfl Try.underlying61 rfl rfl (by first | assumption | rfl) ?_)) | ((with_reducible refine gate_dst (N := 27) rfl ?_); go_must (refine M.out.ev_ld 2 _ _ rfl rfl rfl Try.underlying2 rfl rfl (by first | assumption | rfl) ?_)) | (go_at_call 88; go_must (refine (cloneFlock_any _ n xs hl hc hA _ (M.out.sl HS.out)).mono ?_); rintro e w_ ⟨A_, c_, rfl, hc_, N_⟩; have m := M.out.join N_; clear N_; simp only [List.cons_append, List.nil_append, List.append_nil] at m; have M := Lib.hid m; clear m) | ((with_reducible refine gate_dst (N := 29) rfl ?_); go_must (refine ev_ldr _ _ rfl rfl (M.out.argrange R.out) Try.underlying39 rfl (by first | exact sz39 | (rw [S1.out]; exact sz39)) rfl ?_)) | ((with_reducible refine gate_dst (N := 30) rfl ?_); go_must (refine M.out.ev_bs1 elem_Flock rfl _ rfl xs[j].vals.toArray rfl rfl (by decide) ?_); intro g30 w30 m; simp only [List.cons_append, List.nil_append] at m; have M := Lib.hid m; clear m) | ((with_reducible refine gate_dst (N := 31) rfl ?_); go_must (first | (refine M.out.ev_append1 4 5 elem_Flock rfl _ _ rfl rfl rfl rfl rfl rfl (Flock.one _) (by omega) (by decide) ?_) | (refine M.out.ev_append1 5 4 elem_Flock rfl _ _ rfl rfl rfl rfl rfl rfl (Flock.one _) (by omega) (by decide) ?_)); intro v31 w31 m; simp only [List.set_cons_succ, List.set_cons_zero] at m; have M := Lib.hid m; clear m))
        refine onward_normal (hK _ _ ⟨(by first | exact M.out | exact M.out.take 4), ?_⟩)
        clear hK K
        try simp only [Act.put, List.getElem_toArray, List.getElem_cons_succ, List.getElem_cons_zero, List.setIfInBounds_toArray, List.set_cons_succ, List.set_cons_zero]
        apply takeH (i := 8) 11 rfl (by kernel_rfl) (by kernel_rfl) (by kernel_rfl) (fun _ _ _ h => h) rfl (by first | exact M.out | exact M.out.take 4)
        case' hy =>
          refine Or.inl ⟨by first | rfl | (go_simp; done), ?_⟩
          intro w hS
          clear hS
          go_simp
          try with_reducible rfl
        try simp only [Act.put, List.getElem_toArray, List.getElem_cons_succ, List.getElem_cons_zero, List.setIfInBounds_toArray, List.set_cons_succ, List.set_cons_zero]
        refine wpAnyH_done (by kernel_rfl) ?_ _
      all_goals
        go_wp2
        first
          | have m := M.out.only [0, 1, 2, 3, 4] (K := [.blk _ _ _, .blk _ _ _, .blk _ _ _, .blk _ _ _, .row _ 39 6 (xs.length + 1) _]) rfl (by decide)
          | have m := M.out.only [0, 1, 2, 3, 5] (K := [.blk _ _ _, .blk _ _ _, .blk _ _ _, .blk _ _ _, .row _ 39 6 (xs.length + 1) _]) rfl (by decide)
        obtain ⟨g_, cap_, rfl, hcap⟩ := m.row_form 4 rfl (by omega)
        clear M
        have M := Lib.hid m
        clear m
        have HLL := Lib.hid (show (flat Flock.vals xs ++ xs[j].vals).length = xs.length * 6 + 6 by rw [List.length_append, HL.out]; rfl)
        have HAT := Lib.hid (show (flat Flock.vals xs ++ xs[j].vals)[j * 6 + 1]? = some (.int .i16 xs[j].birds) by
          rw [← flat_snoc]
          exact flat_at Flock.vl (by rw [List.getElem?_append_left hj]; exact List.getElem?_eq_getElem hj) rfl)
        refine region_anyH (fun w' => Mem w w' [.blk g4 35 F.cells, .blk g5 61 #[.slice (some ⟨b', off, none⟩) xs.length n], .blk g6 2 #[.int .i64 j], .blk g7 2 #[.int .i64 b]]) (by kernel_rfl) ?_
        have m := M.out.drew
        clear M
        have M := Lib.hid m
        clear m
        apply takeH (i := 0) 32 rfl (by kernel_rfl) (by kernel_rfl) (by kernel_rfl) (fun _ _ _ h => h) rfl (by first | exact M.out | exact M.out.take 4)
        case' hy =>
          refine Or.inl ⟨by first | rfl | (go_simp; done), ?_⟩
          intro w hS
          clear hS
          go_simp
          try with_reducible rfl
        try simp only [Act.put, List.getElem_toArray, List.getElem_cons_succ, List.getElem_cons_zero, List.setIfInBounds_toArray, List.set_cons_succ, List.set_cons_zero]
        apply takeH (i := 1) 33 rfl (by kernel_rfl) (by kernel_rfl) (by kernel_rfl) (fun _ _ _ h => h) rfl (by first | exact M.out | exact M.out.take 4)
        case' hy => exact ylds _ _ rfl rfl Try.underlying2 rfl rfl (fun w' hS => hS.cell 2 rfl (by first | assumption | rfl))
        try simp only [Act.put, List.getElem_toArray, List.getElem_cons_succ, List.getElem_cons_zero, List.setIfInBounds_toArray, List.set_cons_succ, List.set_cons_zero]
        apply takeH (i := 2) 34 rfl (by kernel_rfl) (by kernel_rfl) (by kernel_rfl) (fun _ _ _ h => h) rfl (by first | exact M.out | exact M.out.take 4)
        case' hy =>
          refine Or.inl ⟨by first | rfl | (go_simp; done), ?_⟩
          intro w hS
          clear hS
          go_simp
          try with_reducible rfl
        try simp only [Act.put, List.getElem_toArray, List.getElem_cons_succ, List.getElem_cons_zero, List.setIfInBounds_toArray, List.set_cons_succ, List.set_cons_zero]
        apply takeH (i := 3) 35 rfl (by kernel_rfl) (by kernel_rfl) (by kernel_rfl) (fun _ _ _ h => h) rfl (by first | exact M.out | exact M.out.take 4)
        case' hy =>
          refine Or.inl ⟨by first | rfl | (go_simp; done), ?_⟩
          intro w hS
          clear hS
          go_simp
          try with_reducible rfl
        try simp only [Act.put, List.getElem_toArray, List.getElem_cons_succ, List.getElem_cons_zero, List.setIfInBounds_toArray, List.set_cons_succ, List.set_cons_zero]
        apply takeH (i := 5) 37 rfl (by kernel_rfl) (by kernel_rfl) (by kernel_rfl) (fun _ _ _ h => h) rfl (by first | exact M.out | exact M.out.take 4)
        case' hy => exact ylds _ _ rfl rfl Try.underlying2 rfl rfl (fun w' hS => hS.cell 3 rfl (by first | assumption | rfl))
        try simp only [Act.put, List.getElem_toArray, List.getElem_cons_succ, List.getElem_cons_zero, List.setIfInBounds_toArray, List.set_cons_succ, List.set_cons_zero]
        apply takeH (i := 6) 38 rfl (by kernel_rfl) (by kernel_rfl) (by kernel_rfl) (fun _ _ _ h => h) rfl (by first | exact M.out | exact M.out.take 4)
        case' hy =>
          refine Or.inl ⟨by first | rfl | (go_simp; done), ?_⟩
          intro w hS
          clear hS
          go_simp
          try with_reducible rfl
        try simp only [Act.put, List.getElem_toArray, List.getElem_cons_succ, List.getElem_cons_zero, List.setIfInBounds_toArray, List.set_cons_succ, List.set_cons_zero]
        refine any1H 4 (by kernel_rfl) rfl (fun K hK => ?_)
        go_wp2_with (first | ((with_reducible refine gate_dst (N := 33) rfl ?_); go_must (refine M.out.ev_ld 2 _ _ rfl rfl rfl Try.underlying2 rfl rfl (by first | assumption | rfl) ?_)) | ((with_reducible refine gate_dst (N := 37) rfl ?_); go_must (refine M.out.ev_ld 3 _ _ rfl rfl rfl Try.underlying2 rfl rfl (by first | assumption | rfl) ?_)) | ((with_reducible refine gate_dst (N := 36) rfl ?_); go_must (refine ev_get _ _ rfl rfl (M.out.row_cell 4 rfl HAT.out) Try.underlying24 rfl rfl ?_)) | ((with_reducible refine gate_store (x := .tmp 41) rfl ?_); go_must (refine M.out.ev_rput1 4 _ _ _ rfl rfl rfl rfl (.int .i16 (xs[j].birds - b)) rfl (by rw [HLL.out]; omega) sz24 rfl rfl ?_); intro wn m; simp only [List.set_cons_succ, List.set_cons_zero] at m; have M := Lib.hid m; clear m))
        refine onward_normal (hK _ _ ⟨(by first | exact M.out | exact M.out.take 4), ?_⟩)
        clear hK K
        try simp only [Act.put, List.getElem_toArray, List.getElem_cons_succ, List.getElem_cons_zero, List.setIfInBounds_toArray, List.set_cons_succ, List.set_cons_zero]
        apply takeH (i := 7) 39 rfl (by kernel_rfl) (by kernel_rfl) (by kernel_rfl) (fun _ _ _ h => h) rfl (by first | exact M.out | exact M.out.take 4)
        case' hy =>
          refine Or.inl ⟨by first | rfl | (go_simp; done), ?_⟩
          intro w hS
          clear hS
          go_simp
          try with_reducible rfl
        try simp only [Act.put, List.getElem_toArray, List.getElem_cons_succ, List.getElem_cons_zero, List.setIfInBounds_toArray, List.set_cons_succ, List.set_cons_zero]
        apply takeH (i := 8) 40 rfl (by kernel_rfl) (by kernel_rfl) (by kernel_rfl) (fun _ _ _ h => h) rfl (by first | exact M.out | exact M.out.take 4)
        case' hy =>
          refine Or.inl ⟨by first | rfl | (go_simp; done), ?_⟩
          intro w hS
          clear hS
          go_simp
          try with_reducible rfl
        try simp only [Act.put, List.getElem_toArray, List.getElem_cons_succ, List.getElem_cons_zero, List.setIfInBounds_toArray, List.set_cons_succ, List.set_cons_zero]
        apply takeH (i := 9) 41 rfl (by kernel_rfl) (by kernel_rfl) (by kernel_rfl) (fun _ _ _ h => h) rfl (by first | exact M.out | exact M.out.take 4)
        case' hy =>
          refine Or.inl ⟨by first | rfl | (go_simp; done), ?_⟩
          intro w hS
          clear hS
          go_simp
          try with_reducible rfl
        try simp only [Act.put, List.getElem_toArray, List.getElem_cons_succ, List.getElem_cons_zero, List.setIfInBounds_toArray, List.set_cons_succ, List.set_cons_zero]
        refine any1H 10 (by kernel_rfl) rfl (fun K hK => ?_)
        go_wp2_with (first | ((with_reducible refine gate_dst (N := 33) rfl ?_); go_must (refine M.out.ev_ld 2 _ _ rfl rfl rfl Try.underlying2 rfl rfl (by first | assumption | rfl) ?_)) | ((with_reducible refine gate_dst (N := 37) rfl ?_); go_must (refine M.out.ev_ld 3 _ _ rfl rfl rfl Try.underlying2 rfl rfl (by first | assumption | rfl) ?_)) | ((with_reducible refine gate_dst (N := 36) rfl ?_); go_must (refine ev_get _ _ rfl rfl (M.out.row_cell 4 rfl HAT.out) Try.underlying24 rfl rfl ?_)) | ((with_reducible refine gate_store (x := .tmp 41) rfl ?_); go_must (refine M.out.ev_rput1 4 _ _ _ rfl rfl rfl rfl (.int .i16 (xs[j].birds - b)) rfl (by rw [HLL.out]; omega) sz24 rfl rfl ?_); intro wn m; simp only [List.set_cons_succ, List.set_cons_zero] at m; have M := Lib.hid m; clear m))
        refine onward_normal (hK _ _ ⟨(by first | exact M.out | exact M.out.take 4), ?_⟩)
        clear hK K
        try simp only [Act.put, List.getElem_toArray, List.getElem_cons_succ, List.getElem_cons_zero, List.setIfInBounds_toArray, List.set_cons_succ, List.set_cons_zero]
        refine wpAnyH_done (by kernel_rfl) ?_ _
        all_goals
          have q1 := M.out.cell (j := 0) (v := .slice (some ⟨b', off, none⟩) xs.length n) 1 rfl rfl
          have q3 := M.out.cell (j := 0) (v := .int .i64 b) 3 rfl rfl
          go_wp2_with (first
            | ((with_reducible refine gate_store (x := .tmp 48) rfl ?_); go_must (refine M.out.ev_rput1 4 _ _ _ rfl rfl rfl rfl (.int .i16 b) rfl (by rw [List.length_set, HLL.out]; omega) sz24 rfl rfl ?_); intro wn m; simp only [List.set_cons_succ, List.set_cons_zero] at m; have M := Lib.hid m; clear m)
            )
          go_ret2
          have m := M.out.only [4] (K := [.row _ 39 6 (xs.length + 1) _]) rfl (by decide)
          rw [sp_flat hj b] at m
          have hac : spCode F xs j b = 0 := by simp [spCode, HD.out, H12.out]
          have hrl : (spAt xs j b).length = xs.length + 1 := by rw [← sp_list hj]; simp
          rw [spRes, hac, if_pos rfl, Int.toNat_natCast, hrl]
          exact ⟨_, _, rfl, hcap, m⟩
  · have HD := Lib.hid hd
    have hdd : (flCode F xs i (spFine xs i b) != 0) = true := by simp [hd]
    have HAC := Lib.hid (show spCode F xs i b = flCode F xs i (spFine xs i b) by rw [spCode, if_pos hd])
    clear hd
    go_enter Try.func41, Try.ntmps41
    go_wp2_with (first
      | ((with_reducible refine gate_dst (N := 4) rfl ?_); go_must (refine M.out.ev_new rfl (by first | (go_simp; done) | (go_simp; rfl)) ?_); intro g4 w4 m; simp only [List.cons_append, List.nil_append] at m; have M := Lib.hid m; clear m; try have q1_0 := M.out.cell (j := 0) 1 rfl (by first | assumption | rfl); try have q2_0 := M.out.cell (j := 0) 2 rfl (by first | assumption | rfl); try have q3_0 := M.out.cell (j := 0) 3 rfl (by first | assumption | rfl))
      | ((with_reducible refine gate_dst (N := 5) rfl ?_); go_must (refine M.out.ev_new rfl (by first | (go_simp; done) | (go_simp; rfl)) ?_); intro g5 w5 m; simp only [List.cons_append, List.nil_append] at m; have M := Lib.hid m; clear m; try have q1_0 := M.out.cell (j := 0) 1 rfl (by first | assumption | rfl); try have q2_0 := M.out.cell (j := 0) 2 rfl (by first | assumption | rfl); try have q3_0 := M.out.cell (j := 0) 3 rfl (by first | assumption | rfl))
      | ((with_reducible refine gate_dst (N := 6) rfl ?_); go_must (refine M.out.ev_new rfl (by first | (go_simp; done) | (go_simp; rfl)) ?_); intro g6 w6 m; simp only [List.cons_append, List.nil_append] at m; have M := Lib.hid m; clear m; try have q1_0 := M.out.cell (j := 0) 1 rfl (by first | assumption | rfl); try have q2_0 := M.out.cell (j := 0) 2 rfl (by first | assumption | rfl); try have q3_0 := M.out.cell (j := 0) 3 rfl (by first | assumption | rfl))
      | ((with_reducible refine gate_dst (N := 7) rfl ?_); go_must (refine M.out.ev_new rfl (by first | (go_simp; done) | (go_simp; rfl)) ?_); intro g7 w7 m; simp only [List.cons_append, List.nil_append] at m; have M := Lib.hid m; clear m; try have q1_0 := M.out.cell (j := 0) 1 rfl (by first | assumption | rfl); try have q2_0 := M.out.cell (j := 0) 2 rfl (by first | assumption | rfl); try have q3_0 := M.out.cell (j := 0) 3 rfl (by first | assumption | rfl))
      | ((with_reducible refine gate_dst (N := 12) rfl ?_); go_must (refine M.out.ev_ld 1 _ _ rfl rfl rfl Try.underlying61 rfl rfl (by first | assumption | rfl) ?_))
      | ((with_reducible refine gate_dst (N := 13) rfl ?_); go_must (refine M.out.ev_ld 2 _ _ rfl rfl rfl Try.underlying2 rfl rfl (by first | assumption | rfl) ?_))
      | ((with_reducible refine gate_dst (N := 21) rfl ?_); go_must (refine M.out.ev_ld 1 _ _ rfl rfl rfl Try.underlying61 rfl rfl (by first | assumption | rfl) ?_))
      | ((with_reducible refine gate_dst (N := 24) rfl ?_); go_must (refine M.out.ev_ld 1 _ _ rfl rfl rfl Try.underlying61 rfl rfl (by first | assumption | rfl) ?_))
      | ((with_reducible refine gate_dst (N := 26) rfl ?_); go_must (refine M.out.ev_ld 1 _ _ rfl rfl rfl Try.underlying61 rfl rfl (by first | assumption | rfl) ?_))
      | ((with_reducible refine gate_dst (N := 27) rfl ?_); go_must (refine M.out.ev_ld 2 _ _ rfl rfl rfl Try.underlying2 rfl rfl (by first | assumption | rfl) ?_))
      | ((with_reducible refine gate_dst (N := 33) rfl ?_); go_must (refine M.out.ev_ld 2 _ _ rfl rfl rfl Try.underlying2 rfl rfl (by first | assumption | rfl) ?_))
      | ((with_reducible refine gate_dst (N := 37) rfl ?_); go_must (refine M.out.ev_ld 3 _ _ rfl rfl rfl Try.underlying2 rfl rfl (by first | assumption | rfl) ?_))
      | ((with_reducible refine gate_dst (N := 43) rfl ?_); go_must (refine M.out.ev_ld 1 _ _ rfl rfl rfl Try.underlying61 rfl rfl (by first | assumption | rfl) ?_))
      | ((with_reducible refine gate_dst (N := 45) rfl ?_); go_must (refine M.out.ev_ld 3 _ _ rfl rfl rfl Try.underlying2 rfl rfl (by first | assumption | rfl) ?_))
      | (go_at_call 85; go_must (refine (flockCode_any _ F HF.out A n xs HX.out hl i 91 _ (spFine xs i b) _ (M.out.blk 0 rfl) (M.out.sl HS.out) (fun _ _ => by go_simp) (fun hq w1 m1 => spIs_any _ _ _ A n F xs HX.out hl i b hq w1 ((M.out.join m1).blk 3 rfl) ((M.out.join m1).blk 1 rfl) ((M.out.join m1).blk 2 rfl) ((M.out.join m1).sl HS.out))).mono ?_); rintro e w_ ⟨rfl, N_⟩; have m := M.out.join N_; clear N_; simp only [List.cons_append, List.nil_append, List.append_nil] at m; have M := Lib.hid m; clear m; have q1 := M.out.cell (j := 0) (v := .slice A xs.length n) 1 rfl rfl; have q2 := M.out.cell (j := 0) (v := .int .i64 i) 2 rfl rfl; have q3 := M.out.cell (j := 0) (v := .int .i64 b) 3 rfl rfl)
      )
    go_ret2
    have m := (M.out.take 0).nilrow 39 6
    rw [spRes, HAC.out, if_neg HD.out]
    exact ⟨none, 0, rfl, Nat.le_refl _, m⟩
set_option maxRecDepth 100000 in
set_option maxHeartbeats 4000000 in
theorem spec_SplitFlock_any (F : Fld) (hF : F.ok) (A : Option Addr) (n : Nat) (xs : List Flock) (hx : ∀ x ∈ xs, x.ok) (hl : xs.length ≤ 1048576) (hc : xs.length ≤ n) (hn : n ≤ 9223372036854775807) (hA : A = none → n = 0) (i b : Int) (w : World) (hs : Sl w 6 A xs.length (flat Flock.vals xs)) :
    Calls Try.prog 40 #[.agg F.cells, .slice A xs.length n, .int .i64 i, .int .i64 b] w (RetRowC w 39 6 (spRes F xs i b).length (flat Flock.vals (spRes F xs i b)) (spCode F xs i b)) := by
  have M := Lib.hid (Mem.start w)
  have HX := Lib.hid hx
  have HS := Lib.hid hs
  have HF := Lib.hid hF
  have S1 := Lib.hid (Fld.size hF.toLen)
  clear hx hs hF
  by_cases hd : flCode F xs i true = 0
  · obtain ⟨h1, h2, h3, h4⟩ := flCode_0 hd
    have HD := Lib.hid hd
    have FT := Lib.hid (flCode_t hd (spFine xs i b))
    obtain ⟨p0, p1⟩ := inB_iff.1 h3
    obtain ⟨j, rfl⟩ : ∃ j : Nat, i = j := ⟨i.toNat, by omega⟩
    have hj : j < xs.length := by omega
    have i0 : (0 : Int) ≤ (j : Int) := by omega
    have i1 : (j : Int) < (xs.length : Int) := by omega
    have i2 : (0 : Int) ≤ (xs.length : Int) := by omega
    have i3 : (j : Int) < (xs.length : Int) + 1 := by omega
    have i4 : (xs.length : Int) < (xs.length : Int) + 1 := by omega
    have i5 : (j : Int) ≤ (xs.length : Int) := by omega
    have i8 : j < xs.length + 1 := by omega
    have i9 : j ≤ xs.length := by omega
    have i6 : (j : Int) < ((xs.length + 1 : Nat) : Int) := by omega
    have i7 : (xs.length : Int) < ((xs.length + 1 : Nat) : Int) := by omega
    have hxj : xs[j]? = some xs[j] := List.getElem?_eq_getElem hj
    obtain ⟨b', off, rfl, hr⟩ := HS.out.2 (by omega)
    have R := Lib.hid (range_at Flock.vl hr hxj)
    obtain ⟨o0, o1⟩ := (HX.out xs[j] (List.getElem_mem hj)).birds
    have e0 : IntKind.i64.wrap xs[j].birds = xs[j].birds := IntWalk.i64_in _ (by omega)
    have HSF := Lib.hid (show spFine xs j b = inB b 0 xs[j].birds by simp [spFine, hxj])
    have Y4 := Lib.hid (show w.cell? ⟨b', off + j * 6 + 1, none⟩ = some (.int .i16 xs[j].birds) from range_at Flock.vl hr hxj 1 _ rfl)
    have HL := Lib.hid (flat_len Flock.vl xs)
    clear h1 h2 h3 h4 hd hxj hr
    cases hq : inB b 0 xs[j].birds
    · have HQ := Lib.hid hq
      have HAC := Lib.hid (show spCode F xs j b = 2 by rw [spCode, FT.out, HSF.out, hq]; simp)
      clear hq
      go_enter Try.func40, Try.ntmps40
      go_wp2_with (first
        | ((with_reducible refine gate_dst (N := 4) rfl ?_); go_must (refine M.out.ev_new rfl (by first | (go_simp; done) | (go_simp; rfl)) ?_); intro g4 w4 m; simp only [List.cons_append, List.nil_append] at m; have M := Lib.hid m; clear m; have y4 := M.out.argcell Y4.out)
        | (go_at_call 82; go_must (refine (l02Index_any _ F HF.out _ n xs HX.out hl (j : Int) _ (M.out.blk 0 rfl) (M.out.sl HS.out)).mono ?_); rintro e w_ ⟨rfl, rfl⟩; rw [HD.out])
        | (go_at_call 90; go_must (refine (l00In_any _ _ _ _).mono ?_); rintro e w_ ⟨rfl, rfl⟩; rw [HQ.out])
        | ((with_reducible refine gate_dst (N := 37) rfl ?_); go_must (refine M.out.ev_bs0 elem_Flock rfl rfl ?_); intro g37 w37 m; simp only [List.cons_append, List.nil_append] at m; have M := Lib.hid m; clear m)
        )
      go_ret2
      have m := M.out.only [1] (K := [_]) rfl (by decide)
      rw [spRes, HAC.out]
      exact ⟨_, 0, rfl, Nat.le_refl _, m⟩
    · have HQ := Lib.hid hq
      obtain ⟨q0, q1⟩ := inB_iff.1 hq
      have e1 : IntKind.i16.wrap b = b := IntWalk.i16_in _ (by omega)
      have e2 : IntKind.i16.wrap (xs[j].birds - b) = xs[j].birds - b := IntWalk.i16_in _ (by omega)
      clear hq
      by_cases h12 : xs.length = 12
      · have hb12 : ((xs.length : Int) == 12) = true := by simp [h12]
        have HAC := Lib.hid (show spCode F xs j b = 3 by rw [spCode, FT.out, HSF.out, HQ.out]; simp [h12])
        clear h12
        go_enter Try.func40, Try.ntmps40
        go_wp2_with (first
          | ((with_reducible refine gate_dst (N := 4) rfl ?_); go_must (refine M.out.ev_new rfl (by first | (go_simp; done) | (go_simp; rfl)) ?_); intro g4 w4 m; simp only [List.cons_append, List.nil_append] at m; have M := Lib.hid m; clear m; have y4 := M.out.argcell Y4.out)
          | (go_at_call 82; go_must (refine (l02Index_any _ F HF.out _ n xs HX.out hl (j : Int) _ (M.out.blk 0 rfl) (M.out.sl HS.out)).mono ?_); rintro e w_ ⟨rfl, rfl⟩; rw [HD.out])
          | (go_at_call 90; go_must (refine (l00In_any _ _ _ _).mono ?_); rintro e w_ ⟨rfl, rfl⟩; rw [HQ.out])
          | ((with_reducible refine gate_dst (N := 37) rfl ?_); go_must (refine M.out.ev_bs0 elem_Flock rfl rfl ?_); intro g37 w37 m; simp only [List.cons_append, List.nil_append] at m; have M := Lib.hid m; clear m)
          )
        go_ret2
        have m := M.out.only [1] (K := [_]) rfl (by decide)
        rw [spRes, HAC.out]
        exact ⟨_, 0, rfl, Nat.le_refl _, m⟩
      · have hb12 : ((xs.length : Int) == 12) = false := by simp; omega
        have HAC := Lib.hid (show spCode F xs j b = 0 by rw [spCode, FT.out, HSF.out, HQ.out]; simp [h12])
        clear h12
        go_enter Try.func40, Try.ntmps40
        go_wp2_with (first
          | ((with_reducible refine gate_dst (N := 4) rfl ?_); go_must (refine M.out.ev_new rfl (by first | (go_simp; done) | (go_simp; rfl)) ?_); intro g4 w4 m; simp only [List.cons_append, List.nil_append] at m; have M := Lib.hid m; clear m; have y4 := M.out.argcell Y4.out)
          | (go_at_call 82; go_must (refine (l02Index_any _ F HF.out _ n xs HX.out hl (j : Int) _ (M.out.blk 0 rfl) (M.out.sl HS.out)).mono ?_); rintro e w_ ⟨rfl, rfl⟩; rw [HD.out])
          | (go_at_call 90; go_must (refine (l00In_any _ _ _ _).mono ?_); rintro e w_ ⟨rfl, rfl⟩; rw [HQ.out])
          | ((with_reducible refine gate_dst (N := 37) rfl ?_); go_must (refine M.out.ev_bs0 elem_Flock rfl rfl ?_); intro g37 w37 m; simp only [List.cons_append, List.nil_append] at m; have M := Lib.hid m; clear m)
          )
        refine region_anyH (fun w' => Mem w w' [.blk g4 35 F.cells]) (by kernel_rfl) ?_
        have m := M.out.drew
        clear M
        have M := Lib.hid m
        clear m
        apply takeH (i := 1) 40 rfl (by kernel_rfl) (by kernel_rfl) (by kernel_rfl) (fun _ _ _ h => h) rfl (by first | exact M.out | exact M.out.take 1)
        case' hy =>
          refine Or.inl ⟨by first | rfl | (go_simp; done), ?_⟩
          intro w hS
          clear hS
          go_simp
          try with_reducible rfl
        try simp only [Act.put, List.getElem_toArray, List.getElem_cons_succ, List.getElem_cons_zero, List.setIfInBounds_toArray, List.set_cons_succ, List.set_cons_zero]
        apply takeH (i := 3) 42 rfl (by kernel_rfl) (by kernel_rfl) (by kernel_rfl) (fun _ _ _ h => h) rfl (by first | exact M.out | exact M.out.take 1)
        case' hy =>
          refine Or.inl ⟨by first | rfl | (go_simp; done), ?_⟩
          intro w hS
          clear hS
          go_simp
          try with_reducible rfl
        try simp only [Act.put, List.getElem_toArray, List.getElem_cons_succ, List.getElem_cons_zero, List.setIfInBounds_toArray, List.set_cons_succ, List.set_cons_zero]
        apply takeH (i := 4) 43 rfl (by kernel_rfl) (by kernel_rfl) (by kernel_rfl) (fun _ _ _ h => h) rfl (by first | exact M.out | exact M.out.take 1)
        case' hy =>
          refine Or.inl ⟨by first | rfl | (go_simp; done), ?_⟩
          intro w hS
          clear hS
          go_simp
          try with_reducible rfl
        try simp only [Act.put, List.getElem_toArray, List.getElem_cons_succ, List.getElem_cons_zero, List.setIfInBounds_toArray, List.set_cons_succ, List.set_cons_zero]
        apply takeH (i := 5) 44 rfl (by kernel_rfl) (by kernel_rfl) (by kernel_rfl) (fun _ _ _ h => h) rfl (by first | exact M.out | exact M.out.take 1)
        case' hy =>
          refine Or.inl ⟨by first | rfl | (go_simp; done), ?_⟩
          intro w hS
          clear hS
          go_simp
          try with_reducible rfl
        try simp only [Act.put, List.getElem_toArray, List.getElem_cons_succ, List.getElem_cons_zero, List.setIfInBounds_toArray, List.set_cons_succ, List.set_cons_zero]
        refine any2H 0 6 (by kernel_rfl) rfl rfl (fun K hK => ?_) (fun K hK => ?_)
        rotate_right 1
        case' _ =>
          go_wp2_with (first | ((with_reducible refine gate_dst (N := 39) rfl ?_); go_must (refine M.out.ev_bs0 elem_Flock rfl rfl ?_); intro g39 w39 m; simp only [List.cons_append, List.nil_append] at m; have M := Lib.hid m; clear m) | ((with_reducible refine gate_dst (N := 41) rfl ?_); go_must (first | (refine M.out.ev_appends 1 elem_Flock rfl _ _ rfl rfl rfl rfl (M.out.sl HS.out) hA hc (flat_one Flock.ones xs) (by omega) (by decide) ?_) | (refine M.out.ev_appends 2 elem_Flock rfl _ _ rfl rfl rfl rfl (M.out.sl HS.out) hA hc (flat_one Flock.ones xs) (by omega) (by decide) ?_)); intro v41 w41 m; simp only [List.set_cons_succ, List.set_cons_zero, List.nil_append, Nat.zero_add] at m; have M := Lib.hid m; clear m) | ((with_reducible refine gate_dst (N := 45) rfl ?_); go_must (refine ev_ldr _ _ rfl rfl (M.out.argrange R.out) Try.underlying39 rfl (by first | exact sz39 | (rw [S1.out]; exact sz39)) rfl ?_)) | ((with_reducible refine gate_dst (N := 46) rfl ?_); go_must (refine M.out.ev_bs1 elem_Flock rfl _ rfl xs[j].vals.toArray rfl rfl (by decide) ?_); intro g46 w46 m; simp only [List.cons_append, List.nil_append] at m; have M := Lib.hid m; clear m) | ((with_reducible refine gate_dst (N := 47) rfl ?_); go_must (first | (refine M.out.ev_append1 1 2 elem_Flock rfl _ _ rfl rfl rfl rfl rfl rfl (Flock.one _) (by omega) (by decide) ?_) | (refine M.out.ev_append1 2 1 elem_Flock rfl _ _ rfl rfl rfl rfl rfl rfl (Flock.one _) (by omega) (by decide) ?_)); intro v47 w47 m; simp only [List.set_cons_succ, List.set_cons_zero] at m; have M := Lib.hid m; clear m))
          refine onward_normal (hK _ _ ⟨(by first | exact M.out | exact M.out.take 1), ?_⟩)
          clear hK K
          try simp only [Act.put, List.getElem_toArray, List.getElem_cons_succ, List.getElem_cons_zero, List.setIfInBounds_toArray, List.set_cons_succ, List.set_cons_zero]
          refine any2H 0 7 (by kernel_rfl) rfl rfl (fun K hK => ?_) (fun K hK => ?_)
          rotate_right 1
          case' _ =>
            go_wp2_with (first | ((with_reducible refine gate_dst (N := 39) rfl ?_); go_must (refine M.out.ev_bs0 elem_Flock rfl rfl ?_); intro g39 w39 m; simp only [List.cons_append, List.nil_append] at m; have M := Lib.hid m; clear m) | ((with_reducible refine gate_dst (N := 41) rfl ?_); go_must (first | (refine M.out.ev_appends 1 elem_Flock rfl _ _ rfl rfl rfl rfl (M.out.sl HS.out) hA hc (flat_one Flock.ones xs) (by omega) (by decide) ?_) | (refine M.out.ev_appends 2 elem_Flock rfl _ _ rfl rfl rfl rfl (M.out.sl HS.out) hA hc (flat_one Flock.ones xs) (by omega) (by decide) ?_)); intro v41 w41 m; simp only [List.set_cons_succ, List.set_cons_zero, List.nil_append, Nat.zero_add] at m; have M := Lib.hid m; clear m) | ((with_reducible refine gate_dst (N := 45) rfl ?_); go_must (refine ev_ldr _ _ rfl rfl (M.out.argrange R.out) Try.underlying39 rfl (by first | exact sz39 | (rw [S1.out]; exact sz39)) rfl ?_)) | ((with_reducible refine gate_dst (N := 46) rfl ?_); go_must (refine M.out.ev_bs1 elem_Flock rfl _ rfl xs[j].vals.toArray rfl rfl (by decide) ?_); intro g46 w46 m; simp only [List.cons_append, List.nil_append] at m; have M := Lib.hid m; clear m) | ((with_reducible refine gate_dst (N := 47) rfl ?_); go_must (first | (refine M.out.ev_append1 1 2 elem_Flock rfl _ _ rfl rfl rfl rfl rfl rfl (Flock.one _) (by omega) (by decide) ?_) | (refine M.out.ev_append1 2 1 elem_Flock rfl _ _ rfl rfl rfl rfl rfl rfl (Flock.one _) (by omega) (by decide) ?_)); intro v47 w47 m; simp only [List.set_cons_succ, List.set_cons_zero] at m; have M := Lib.hid m; clear m))
            refine onward_normal (hK _ _ ⟨(by first | exact M.out | exact M.out.take 1), ?_⟩)
            clear hK K
            try simp only [Act.put, List.getElem_toArray, List.getElem_cons_succ, List.getElem_cons_zero, List.setIfInBounds_toArray, List.set_cons_succ, List.set_cons_zero]
            refine any1H 0 (by kernel_rfl) rfl (fun K hK => ?_)
            go_wp2_with (first | ((with_reducible refine gate_dst (N := 39) rfl ?_); go_must (refine M.out.ev_bs0 elem_Flock rfl rfl ?_); intro g39 w39 m; simp only [List.cons_append, List.nil_append] at m; have M := Lib.hid m; clear m) | ((with_reducible refine gate_dst (N := 41) rfl ?_); go_must (first | (refine M.out.ev_appends 1 elem_Flock rfl _ _ rfl rfl rfl rfl (M.out.sl HS.out) hA hc (flat_one Flock.ones xs) (by omega) (by decide) ?_) | (refine M.out.ev_appends 2 elem_Flock rfl _ _ rfl rfl rfl rfl (M.out.sl HS.out) hA hc (flat_one Flock.ones xs) (by omega) (by decide) ?_)); intro v41 w41 m; simp only [List.set_cons_succ, List.set_cons_zero, List.nil_append, Nat.zero_add] at m; have M := Lib.hid m; clear m) | ((with_reducible refine gate_dst (N := 45) rfl ?_); go_must (refine ev_ldr _ _ rfl rfl (M.out.argrange R.out) Try.underlying39 rfl (by first | exact sz39 | (rw [S1.out]; exact sz39)) rfl ?_)) | ((with_reducible refine gate_dst (N := 46) rfl ?_); go_must (refine M.out.ev_bs1 elem_Flock rfl _ rfl xs[j].vals.toArray rfl rfl (by decide) ?_); intro g46 w46 m; simp only [List.cons_append, List.nil_append] at m; have M := Lib.hid m; clear m) | ((with_reducible refine gate_dst (N := 47) rfl ?_); go_must (first | (refine M.out.ev_append1 1 2 elem_Flock rfl _ _ rfl rfl rfl rfl rfl rfl (Flock.one _) (by omega) (by decide) ?_) | (refine M.out.ev_append1 2 1 elem_Flock rfl _ _ rfl rfl rfl rfl rfl rfl (Flock.one _) (by omega) (by decide) ?_)); intro v47 w47 m; simp only [List.set_cons_succ, List.set_cons_zero] at m; have M := Lib.hid m; clear m))
            refine onward_normal (hK _ _ ⟨(by first | exact M.out | exact M.out.take 1), ?_⟩)
            clear hK K
            try simp only [Act.put, List.getElem_toArray, List.getElem_cons_succ, List.getElem_cons_zero, List.setIfInBounds_toArray, List.set_cons_succ, List.set_cons_zero]
            refine any1H 2 (by kernel_rfl) rfl (fun K hK => ?_)
            go_wp2_with (first | ((with_reducible refine gate_dst (N := 39) rfl ?_); go_must (refine M.out.ev_bs0 elem_Flock rfl rfl ?_); intro g39 w39 m; simp only [List.cons_append, List.nil_append] at m; have M := Lib.hid m; clear m) | ((with_reducible refine gate_dst (N := 41) rfl ?_); go_must (first | (refine M.out.ev_appends 1 elem_Flock rfl _ _ rfl rfl rfl rfl (M.out.sl HS.out) hA hc (flat_one Flock.ones xs) (by omega) (by decide) ?_) | (refine M.out.ev_appends 2 elem_Flock rfl _ _ rfl rfl rfl rfl (M.out.sl HS.out) hA hc (flat_one Flock.ones xs) (by omega) (by decide) ?_)); intro v41 w41 m; simp only [List.set_cons_succ, List.set_cons_zero, List.nil_append, Nat.zero_add] at m; have M := Lib.hid m; clear m) | ((with_reducible refine gate_dst (N := 45) rfl ?_); go_must (refine ev_ldr _ _ rfl rfl (M.out.argrange R.out) Try.underlying39 rfl (by first | exact sz39 | (rw [S1.out]; exact sz39)) rfl ?_)) | ((with_reducible refine gate_dst (N := 46) rfl ?_); go_must (refine M.out.ev_bs1 elem_Flock rfl _ rfl xs[j].vals.toArray rfl rfl (by decide) ?_); intro g46 w46 m; simp only [List.cons_append, List.nil_append] at m; have M := Lib.hid m; clear m) | ((with_reducible refine gate_dst (N := 47) rfl ?_); go_must (first | (refine M.out.ev_append1 1 2 elem_Flock rfl _ _ rfl rfl rfl rfl rfl rfl (Flock.one _) (by omega) (by decide) ?_) | (refine M.out.ev_append1 2 1 elem_Flock rfl _ _ rfl rfl rfl rfl rfl rfl (Flock.one _) (by omega) (by decide) ?_)); intro v47 w47 m; simp only [List.set_cons_succ, List.set_cons_zero] at m; have M := Lib.hid m; clear m))
            refine onward_normal (hK _ _ ⟨(by first | exact M.out | exact M.out.take 1), ?_⟩)
            clear hK K
            try simp only [Act.put, List.getElem_toArray, List.getElem_cons_succ, List.getElem_cons_zero, List.setIfInBounds_toArray, List.set_cons_succ, List.set_cons_zero]
            refine any1H 8 (by kernel_rfl) rfl (fun K hK => ?_)
            go_wp2_with (first | ((with_reducible refine gate_dst (N := 39) rfl ?_); go_must (refine M.out.ev_bs0 elem_Flock rfl rfl ?_); intro g39 w39 m; simp only [List.cons_append, List.nil_append] at m; have M := Lib.hid m; clear m) | ((with_reducible refine gate_dst (N := 41) rfl ?_); go_must (first | (refine M.out.ev_appends 1 elem_Flock rfl _ _ rfl rfl rfl rfl (M.out.sl HS.out) hA hc (flat_one Flock.ones xs) (by omega) (by decide) ?_) | (refine M.out.ev_appends 2 elem_Flock rfl _ _ rfl rfl rfl rfl (M.out.sl HS.out) hA hc (flat_one Flock.ones xs) (by omega) (by decide) ?_)); intro v41 w41 m; simp only [List.set_cons_succ, List.set_cons_zero, List.nil_append, Nat.zero_add] at m; have M := Lib.hid m; clear m) | ((with_reducible refine gate_dst (N := 45) rfl ?_); go_must (refine ev_ldr _ _ rfl rfl (M.out.argrange R.out) Try.underlying39 rfl (by first | exact sz39 | (rw [S1.out]; exact sz39)) rfl ?_)) | ((with_reducible refine gate_dst (N := 46) rfl ?_); go_must (refine M.out.ev_bs1 elem_Flock rfl _ rfl xs[j].vals.toArray rfl rfl (by decide) ?_); intro g46 w46 m; simp only [List.cons_append, List.nil_append] at m; have M := Lib.hid m; clear m) | ((with_reducible refine gate_dst (N := 47) rfl ?_); go_must (first | (refine M.out.ev_append1 1 2 elem_Flock rfl _ _ rfl rfl rfl rfl rfl rfl (Flock.one _) (by omega) (by decide) ?_) | (refine M.out.ev_append1 2 1 elem_Flock rfl _ _ rfl rfl rfl rfl rfl rfl (Flock.one _) (by omega) (by decide) ?_)); intro v47 w47 m; simp only [List.set_cons_succ, List.set_cons_zero] at m; have M := Lib.hid m; clear m))
            refine onward_normal (hK _ _ ⟨(by first | exact M.out | exact M.out.take 1), ?_⟩)
            clear hK K
            try simp only [Act.put, List.getElem_toArray, List.getElem_cons_succ, List.getElem_cons_zero, List.setIfInBounds_toArray, List.set_cons_succ, List.set_cons_zero]
            apply takeH (i := 9) 11 rfl (by kernel_rfl) (by kernel_rfl) (by kernel_rfl) (fun _ _ _ h => h) rfl (by first | exact M.out | exact M.out.take 1)
            case' hy =>
              refine Or.inl ⟨by first | rfl | (go_simp; done), ?_⟩
              intro w hS
              clear hS
              go_simp
              try with_reducible rfl
            try simp only [Act.put, List.getElem_toArray, List.getElem_cons_succ, List.getElem_cons_zero, List.setIfInBounds_toArray, List.set_cons_succ, List.set_cons_zero]
            refine wpAnyH_done (by kernel_rfl) ?_ _
          rotate_right 1
          case' _ =>
            go_wp2_with (first | ((with_reducible refine gate_dst (N := 39) rfl ?_); go_must (refine M.out.ev_bs0 elem_Flock rfl rfl ?_); intro g39 w39 m; simp only [List.cons_append, List.nil_append] at m; have M := Lib.hid m; clear m) | ((with_reducible refine gate_dst (N := 41) rfl ?_); go_must (first | (refine M.out.ev_appends 1 elem_Flock rfl _ _ rfl rfl rfl rfl (M.out.sl HS.out) hA hc (flat_one Flock.ones xs) (by omega) (by decide) ?_) | (refine M.out.ev_appends 2 elem_Flock rfl _ _ rfl rfl rfl rfl (M.out.sl HS.out) hA hc (flat_one Flock.ones xs) (by omega) (by decide) ?_)); intro v41 w41 m; simp only [List.set_cons_succ, List.set_cons_zero, List.nil_append, Nat.zero_add] at m; have M := Lib.hid m; clear m) | ((with_reducible refine gate_dst (N := 45) rfl ?_); go_must (refine ev_ldr _ _ rfl rfl (M.out.argrange R.out) Try.underlying39 rfl (by first | exact sz39 | (rw [S1.out]; exact sz39)) rfl ?_)) | ((with_reducible refine gate_dst (N := 46) rfl ?_); go_must (refine M.out.ev_bs1 elem_Flock rfl _ rfl xs[j].vals.toArray rfl rfl (by decide) ?_); intro g46 w46 m; simp only [List.cons_append, List.nil_append] at m; have M := Lib.hid m; clear m) | ((with_reducible refine gate_dst (N := 47) rfl ?_); go_must (first | (refine M.out.ev_append1 1 2 elem_Flock rfl _ _ rfl rfl rfl rfl rfl rfl (Flock.one _) (by omega) (by decide) ?_) | (refine M.out.ev_append1 2 1 elem_Flock rfl _ _ rfl rfl rfl rfl rfl rfl (Flock.one _) (by omega) (by decide) ?_)); intro v47 w47 m; simp only [List.set_cons_succ, List.set_cons_zero] at m; have M := Lib.hid m; clear m))
            refine onward_normal (hK _ _ ⟨(by first | exact M.out | exact M.out.take 1), ?_⟩)
            clear hK K
            try simp only [Act.put, List.getElem_toArray, List.getElem_cons_succ, List.getElem_cons_zero, List.setIfInBounds_toArray, List.set_cons_succ, List.set_cons_zero]
            refine any2H 2 7 (by kernel_rfl) rfl rfl (fun K hK => ?_) (fun K hK => ?_)
            rotate_right 1
            case' _ =>
              go_wp2_with (first | ((with_reducible refine gate_dst (N := 39) rfl ?_); go_must (refine M.out.ev_bs0 elem_Flock rfl rfl ?_); intro g39 w39 m; simp only [List.cons_append, List.nil_append] at m; have M := Lib.hid m; clear m) | ((with_reducible refine gate_dst (N := 41) rfl ?_); go_must (first | (refine M.out.ev_appends 1 elem_Flock rfl _ _ rfl rfl rfl rfl (M.out.sl HS.out) hA hc (flat_one Flock.ones xs) (by omega) (by decide) ?_) | (refine M.out.ev_appends 2 elem_Flock rfl _ _ rfl rfl rfl rfl (M.out.sl HS.out) hA hc (flat_one Flock.ones xs) (by omega) (by decide) ?_)); intro v41 w41 m; simp only [List.set_cons_succ, List.set_cons_zero, List.nil_append, Nat.zero_add] at m; have M := Lib.hid m; clear m) | ((with_reducible refine gate_dst (N := 45) rfl ?_); go_must (refine ev_ldr _ _ rfl rfl (M.out.argrange R.out) Try.underlying39 rfl (by first | exact sz39 | (rw [S1.out]; exact sz39)) rfl ?_)) | ((with_reducible refine gate_dst (N := 46) rfl ?_); go_must (refine M.out.ev_bs1 elem_Flock rfl _ rfl xs[j].vals.toArray rfl rfl (by decide) ?_); intro g46 w46 m; simp only [List.cons_append, List.nil_append] at m; have M := Lib.hid m; clear m) | ((with_reducible refine gate_dst (N := 47) rfl ?_); go_must (first | (refine M.out.ev_append1 1 2 elem_Flock rfl _ _ rfl rfl rfl rfl rfl rfl (Flock.one _) (by omega) (by decide) ?_) | (refine M.out.ev_append1 2 1 elem_Flock rfl _ _ rfl rfl rfl rfl rfl rfl (Flock.one _) (by omega) (by decide) ?_)); intro v47 w47 m; simp only [List.set_cons_succ, List.set_cons_zero] at m; have M := Lib.hid m; clear m))
              refine onward_normal (hK _ _ ⟨(by first | exact M.out | exact M.out.take 1), ?_⟩)
              clear hK K
              try simp only [Act.put, List.getElem_toArray, List.getElem_cons_succ, List.getElem_cons_zero, List.setIfInBounds_toArray, List.set_cons_succ, List.set_cons_zero]
              refine any1H 2 (by kernel_rfl) rfl (fun K hK => ?_)
              go_wp2_with (first | ((with_reducible refine gate_dst (N := 39) rfl ?_); go_must (refine M.out.ev_bs0 elem_Flock rfl rfl ?_); intro g39 w39 m; simp only [List.cons_append, List.nil_append] at m; have M := Lib.hid m; clear m) | ((with_reducible refine gate_dst (N := 41) rfl ?_); go_must (first | (refine M.out.ev_appends 1 elem_Flock rfl _ _ rfl rfl rfl rfl (M.out.sl HS.out) hA hc (flat_one Flock.ones xs) (by omega) (by decide) ?_) | (refine M.out.ev_appends 2 elem_Flock rfl _ _ rfl rfl rfl rfl (M.out.sl HS.out) hA hc (flat_one Flock.ones xs) (by omega) (by decide) ?_)); intro v41 w41 m; simp only [List.set_cons_succ, List.set_cons_zero, List.nil_append, Nat.zero_add] at m; have M := Lib.hid m; clear m) | ((with_reducible refine gate_dst (N := 45) rfl ?_); go_must (refine ev_ldr _ _ rfl rfl (M.out.argrange R.out) Try.underlying39 rfl (by first | exact sz39 | (rw [S1.out]; exact sz39)) rfl ?_)) | ((with_reducible refine gate_dst (N := 46) rfl ?_); go_must (refine M.out.ev_bs1 elem_Flock rfl _ rfl xs[j].vals.toArray rfl rfl (by decide) ?_); intro g46 w46 m; simp only [List.cons_append, List.nil_append] at m; have M := Lib.hid m; clear m) | ((with_reducible refine gate_dst (N := 47) rfl ?_); go_must (first | (refine M.out.ev_append1 1 2 elem_Flock rfl _ _ rfl rfl rfl rfl rfl rfl (Flock.one _) (by omega) (by decide) ?_) | (refine M.out.ev_append1 2 1 elem_Flock rfl _ _ rfl rfl rfl rfl rfl rfl (Flock.one _) (by omega) (by decide) ?_)); intro v47 w47 m; simp only [List.set_cons_succ, List.set_cons_zero] at m; have M := Lib.hid m; clear m))
              refine onward_normal (hK _ _ ⟨(by first | exact M.out | exact M.out.take 1), ?_⟩)
              clear hK K
              try simp only [Act.put, List.getElem_toArray, List.getElem_cons_succ, List.getElem_cons_zero, List.setIfInBounds_toArray, List.set_cons_succ, List.set_cons_zero]
              refine any1H 8 (by kernel_rfl) rfl (fun K hK => ?_)
              go_wp2_with (first | ((with_reducible refine gate_dst (N := 39) rfl ?_); go_must (refine M.out.ev_bs0 elem_Flock rfl rfl ?_); intro g39 w39 m; simp only [List.cons_append, List.nil_append] at m; have M := Lib.hid m; clear m) | ((with_reducible refine gate_dst (N := 41) rfl ?_); go_must (first | (refine M.out.ev_appends 1 elem_Flock rfl _ _ rfl rfl rfl rfl (M.out.sl HS.out) hA hc (flat_one Flock.ones xs) (by omega) (by decide) ?_) | (refine M.out.ev_appends 2 elem_Flock rfl _ _ rfl rfl rfl rfl (M.out.sl HS.out) hA hc (flat_one Flock.ones xs) (by omega) (by decide) ?_)); intro v41 w41 m; simp only [List.set_cons_succ, List.set_cons_zero, List.nil_append, Nat.zero_add] at m; have M := Lib.hid m; clear m) | ((with_reducible refine gate_dst (N := 45) rfl ?_); go_must (refine ev_ldr _ _ rfl rfl (M.out.argrange R.out) Try.underlying39 rfl (by first | exact sz39 | (rw [S1.out]; exact sz39)) rfl ?_)) | ((with_reducible refine gate_dst (N := 46) rfl ?_); go_must (refine M.out.ev_bs1 elem_Flock rfl _ rfl xs[j].vals.toArray rfl rfl (by decide) ?_); intro g46 w46 m; simp only [List.cons_append, List.nil_append] at m; have M := Lib.hid m; clear m) | ((with_reducible refine gate_dst (N := 47) rfl ?_); go_must (first | (refine M.out.ev_append1 1 2 elem_Flock rfl _ _ rfl rfl rfl rfl rfl rfl (Flock.one _) (by omega) (by decide) ?_) | (refine M.out.ev_append1 2 1 elem_Flock rfl _ _ rfl rfl rfl rfl rfl rfl (Flock.one _) (by omega) (by decide) ?_)); intro v47 w47 m; simp only [List.set_cons_succ, List.set_cons_zero] at m; have M := Lib.hid m; clear m))
              refine onward_normal (hK _ _ ⟨(by first | exact M.out | exact M.out.take 1), ?_⟩)
              clear hK K
              try simp only [Act.put, List.getElem_toArray, List.getElem_cons_succ, List.getElem_cons_zero, List.setIfInBounds_toArray, List.set_cons_succ, List.set_cons_zero]
              apply takeH (i := 9) 11 rfl (by kernel_rfl) (by kernel_rfl) (by kernel_rfl) (fun _ _ _ h => h) rfl (by first | exact M.out | exact M.out.take 1)
              case' hy =>
                refine Or.inl ⟨by first | rfl | (go_simp; done), ?_⟩
                intro w hS
                clear hS
                go_simp
                try with_reducible rfl
              try simp only [Act.put, List.getElem_toArray, List.getElem_cons_succ, List.getElem_cons_zero, List.setIfInBounds_toArray, List.set_cons_succ, List.set_cons_zero]
              refine wpAnyH_done (by kernel_rfl) ?_ _
            rotate_right 1
            case' _ =>
              go_wp2_with (first | ((with_reducible refine gate_dst (N := 39) rfl ?_); go_must (refine M.out.ev_bs0 elem_Flock rfl rfl ?_); intro g39 w39 m; simp only [List.cons_append, List.nil_append] at m; have M := Lib.hid m; clear m) | ((with_reducible refine gate_dst (N := 41) rfl ?_); go_must (first | (refine M.out.ev_appends 1 elem_Flock rfl _ _ rfl rfl rfl rfl (M.out.sl HS.out) hA hc (flat_one Flock.ones xs) (by omega) (by decide) ?_) | (refine M.out.ev_appends 2 elem_Flock rfl _ _ rfl rfl rfl rfl (M.out.sl HS.out) hA hc (flat_one Flock.ones xs) (by omega) (by decide) ?_)); intro v41 w41 m; simp only [List.set_cons_succ, List.set_cons_zero, List.nil_append, Nat.zero_add] at m; have M := Lib.hid m; clear m) | ((with_reducible refine gate_dst (N := 45) rfl ?_); go_must (refine ev_ldr _ _ rfl rfl (M.out.argrange R.out) Try.underlying39 rfl (by first | exact sz39 | (rw [S1.out]; exact sz39)) rfl ?_)) | ((with_reducible refine gate_dst (N := 46) rfl ?_); go_must (refine M.out.ev_bs1 elem_Flock rfl _ rfl xs[j].vals.toArray rfl rfl (by decide) ?_); intro g46 w46 m; simp only [List.cons_append, List.nil_append] at m; have M := Lib.hid m; clear m) | ((with_reducible refine gate_dst (N := 47) rfl ?_); go_must (first | (refine M.out.ev_append1 1 2 elem_Flock rfl _ _ rfl rfl rfl rfl rfl rfl (Flock.one _) (by omega) (by decide) ?_) | (refine M.out.ev_append1 2 1 elem_Flock rfl _ _ rfl rfl rfl rfl rfl rfl (Flock.one _) (by omega) (by decide) ?_)); intro v47 w47 m; simp only [List.set_cons_succ, List.set_cons_zero] at m; have M := Lib.hid m; clear m))
              refine onward_normal (hK _ _ ⟨(by first | exact M.out | exact M.out.take 1), ?_⟩)
              clear hK K
              try simp only [Act.put, List.getElem_toArray, List.getElem_cons_succ, List.getElem_cons_zero, List.setIfInBounds_toArray, List.set_cons_succ, List.set_cons_zero]
              refine any1H 7 (by kernel_rfl) rfl (fun K hK => ?_)
              go_wp2_with (first | ((with_reducible refine gate_dst (N := 39) rfl ?_); go_must (refine M.out.ev_bs0 elem_Flock rfl rfl ?_); intro g39 w39 m; simp only [List.cons_append, List.nil_append] at m; have M := Lib.hid m; clear m) | ((with_reducible refine gate_dst (N := 41) rfl ?_); go_must (first | (refine M.out.ev_appends 1 elem_Flock rfl _ _ rfl rfl rfl rfl (M.out.sl HS.out) hA hc (flat_one Flock.ones xs) (by omega) (by decide) ?_) | (refine M.out.ev_appends 2 elem_Flock rfl _ _ rfl rfl rfl rfl (M.out.sl HS.out) hA hc (flat_one Flock.ones xs) (by omega) (by decide) ?_)); intro v41 w41 m; simp only [List.set_cons_succ, List.set_cons_zero, List.nil_append, Nat.zero_add] at m; have M := Lib.hid m; clear m) | ((with_reducible refine gate_dst (N := 45) rfl ?_); go_must (refine ev_ldr _ _ rfl rfl (M.out.argrange R.out) Try.underlying39 rfl (by first | exact sz39 | (rw [S1.out]; exact sz39)) rfl ?_)) | ((with_reducible refine gate_dst (N := 46) rfl ?_); go_must (refine M.out.ev_bs1 elem_Flock rfl _ rfl xs[j].vals.toArray rfl rfl (by decide) ?_); intro g46 w46 m; simp only [List.cons_append, List.nil_append] at m; have M := Lib.hid m; clear m) | ((with_reducible refine gate_dst (N := 47) rfl ?_); go_must (first | (refine M.out.ev_append1 1 2 elem_Flock rfl _ _ rfl rfl rfl rfl rfl rfl (Flock.one _) (by omega) (by decide) ?_) | (refine M.out.ev_append1 2 1 elem_Flock rfl _ _ rfl rfl rfl rfl rfl rfl (Flock.one _) (by omega) (by decide) ?_)); intro v47 w47 m; simp only [List.set_cons_succ, List.set_cons_zero] at m; have M := Lib.hid m; clear m))
              refine onward_normal (hK _ _ ⟨(by first | exact M.out | exact M.out.take 1), ?_⟩)
              clear hK K
              try simp only [Act.put, List.getElem_toArray, List.getElem_cons_succ, List.getElem_cons_zero, List.setIfInBounds_toArray, List.set_cons_succ, List.set_cons_zero]
              refine any1H 8 (by kernel_rfl) rfl (fun K hK => ?_)
              go_wp2_with (first | ((with_reducible refine gate_dst (N := 39) rfl ?_); go_must (refine M.out.ev_bs0 elem_Flock rfl rfl ?_); intro g39 w39 m; simp only [List.cons_append, List.nil_append] at m; have M := Lib.hid m; clear m) | ((with_reducible refine gate_dst (N := 41) rfl ?_); go_must (first | (refine M.out.ev_appends 1 elem_Flock rfl _ _ rfl rfl rfl rfl (M.out.sl HS.out) hA hc (flat_one Flock.ones xs) (by omega) (by decide) ?_) | (refine M.out.ev_appends 2 elem_Flock rfl _ _ rfl rfl rfl rfl (M.out.sl HS.out) hA hc (flat_one Flock.ones xs) (by omega) (by decide) ?_)); intro v41 w41 m; simp only [List.set_cons_succ, List.set_cons_zero, List.nil_append, Nat.zero_add] at m; have M := Lib.hid m; clear m) | ((with_reducible refine gate_dst (N := 45) rfl ?_); go_must (refine ev_ldr _ _ rfl rfl (M.out.argrange R.out) Try.underlying39 rfl (by first | exact sz39 | (rw [S1.out]; exact sz39)) rfl ?_)) | ((with_reducible refine gate_dst (N := 46) rfl ?_); go_must (refine M.out.ev_bs1 elem_Flock rfl _ rfl xs[j].vals.toArray rfl rfl (by decide) ?_); intro g46 w46 m; simp only [List.cons_append, List.nil_append] at m; have M := Lib.hid m; clear m) | ((with_reducible refine gate_dst (N := 47) rfl ?_); go_must (first | (refine M.out.ev_append1 1 2 elem_Flock rfl _ _ rfl rfl rfl rfl rfl rfl (Flock.one _) (by omega) (by decide) ?_) | (refine M.out.ev_append1 2 1 elem_Flock rfl _ _ rfl rfl rfl rfl rfl rfl (Flock.one _) (by omega) (by decide) ?_)); intro v47 w47 m; simp only [List.set_cons_succ, List.set_cons_zero] at m; have M := Lib.hid m; clear m))
              refine onward_normal (hK _ _ ⟨(by first | exact M.out | exact M.out.take 1), ?_⟩)
              clear hK K
              try simp only [Act.put, List.getElem_toArray, List.getElem_cons_succ, List.getElem_cons_zero, List.setIfInBounds_toArray, List.set_cons_succ, List.set_cons_zero]
              apply takeH (i := 9) 11 rfl (by kernel_rfl) (by kernel_rfl) (by kernel_rfl) (fun _ _ _ h => h) rfl (by first | exact M.out | exact M.out.take 1)
              case' hy =>
                refine Or.inl ⟨by first | rfl | (go_simp; done), ?_⟩
                intro w hS
                clear hS
                go_simp
                try with_reducible rfl
              try simp only [Act.put, List.getElem_toArray, List.getElem_cons_succ, List.getElem_cons_zero, List.setIfInBounds_toArray, List.set_cons_succ, List.set_cons_zero]
              refine wpAnyH_done (by kernel_rfl) ?_ _
        rotate_right 1
        case' _ =>
          go_wp2_with (first | ((with_reducible refine gate_dst (N := 39) rfl ?_); go_must (refine M.out.ev_bs0 elem_Flock rfl rfl ?_); intro g39 w39 m; simp only [List.cons_append, List.nil_append] at m; have M := Lib.hid m; clear m) | ((with_reducible refine gate_dst (N := 41) rfl ?_); go_must (first | (refine M.out.ev_appends 1 elem_Flock rfl _ _ rfl rfl rfl rfl (M.out.sl HS.out) hA hc (flat_one Flock.ones xs) (by omega) (by decide) ?_) | (refine M.out.ev_appends 2 elem_Flock rfl _ _ rfl rfl rfl rfl (M.out.sl HS.out) hA hc (flat_one Flock.ones xs) (by omega) (by decide) ?_)); intro v41 w41 m; simp only [List.set_cons_succ, List.set_cons_zero, List.nil_append, Nat.zero_add] at m; have M := Lib.hid m; clear m) | ((with_reducible refine gate_dst (N := 45) rfl ?_); go_must (refine ev_ldr _ _ rfl rfl (M.out.argrange R.out) Try.underlying39 rfl (by first | exact sz39 | (rw [S1.out]; exact sz39)) rfl ?_)) | ((with_reducible refine gate_dst (N := 46) rfl ?_); go_must (refine M.out.ev_bs1 elem_Flock rfl _ rfl xs[j].vals.toArray rfl rfl (by decide) ?_); intro g46 w46 m; simp only [List.cons_append, List.nil_append] at m; have M := Lib.hid m; clear m) | ((with_reducible refine gate_dst (N := 47) rfl ?_); go_must (first | (refine M.out.ev_append1 1 2 elem_Flock rfl _ _ rfl rfl rfl rfl rfl rfl (Flock.one _) (by omega) (by decide) ?_) | (refine M.out.ev_append1 2 1 elem_Flock rfl _ _ rfl rfl rfl rfl rfl rfl (Flock.one _) (by omega) (by decide) ?_)); intro v47 w47 m; simp only [List.set_cons_succ, List.set_cons_zero] at m; have M := Lib.hid m; clear m))
          refine onward_normal (hK _ _ ⟨(by first | exact M.out | exact M.out.take 1), ?_⟩)
          clear hK K
          try simp only [Act.put, List.getElem_toArray, List.getElem_cons_succ, List.getElem_cons_zero, List.setIfInBounds_toArray, List.set_cons_succ, List.set_cons_zero]
          refine any2H 2 6 (by kernel_rfl) rfl rfl (fun K hK => ?_) (fun K hK => ?_)
          rotate_right 1
          case' _ =>
            go_wp2_with (first | ((with_reducible refine gate_dst (N := 39) rfl ?_); go_must (refine M.out.ev_bs0 elem_Flock rfl rfl ?_); intro g39 w39 m; simp only [List.cons_append, List.nil_append] at m; have M := Lib.hid m; clear m) | ((with_reducible refine gate_dst (N := 41) rfl ?_); go_must (first | (refine M.out.ev_appends 1 elem_Flock rfl _ _ rfl rfl rfl rfl (M.out.sl HS.out) hA hc (flat_one Flock.ones xs) (by omega) (by decide) ?_) | (refine M.out.ev_appends 2 elem_Flock rfl _ _ rfl rfl rfl rfl (M.out.sl HS.out) hA hc (flat_one Flock.ones xs) (by omega) (by decide) ?_)); intro v41 w41 m; simp only [List.set_cons_succ, List.set_cons_zero, List.nil_append, Nat.zero_add] at m; have M := Lib.hid m; clear m) | ((with_reducible refine gate_dst (N := 45) rfl ?_); go_must (refine ev_ldr _ _ rfl rfl (M.out.argrange R.out) Try.underlying39 rfl (by first | exact sz39 | (rw [S1.out]; exact sz39)) rfl ?_)) | ((with_reducible refine gate_dst (N := 46) rfl ?_); go_must (refine M.out.ev_bs1 elem_Flock rfl _ rfl xs[j].vals.toArray rfl rfl (by decide) ?_); intro g46 w46 m; simp only [List.cons_append, List.nil_append] at m; have M := Lib.hid m; clear m) | ((with_reducible refine gate_dst (N := 47) rfl ?_); go_must (first | (refine M.out.ev_append1 1 2 elem_Flock rfl _ _ rfl rfl rfl rfl rfl rfl (Flock.one _) (by omega) (by decide) ?_) | (refine M.out.ev_append1 2 1 elem_Flock rfl _ _ rfl rfl rfl rfl rfl rfl (Flock.one _) (by omega) (by decide) ?_)); intro v47 w47 m; simp only [List.set_cons_succ, List.set_cons_zero] at m; have M := Lib.hid m; clear m))
            refine onward_normal (hK _ _ ⟨(by first | exact M.out | exact M.out.take 1), ?_⟩)
            clear hK K
            try simp only [Act.put, List.getElem_toArray, List.getElem_cons_succ, List.getElem_cons_zero, List.setIfInBounds_toArray, List.set_cons_succ, List.set_cons_zero]
            refine any2H 2 7 (by kernel_rfl) rfl rfl (fun K hK => ?_) (fun K hK => ?_)
            rotate_right 1
            case' _ =>
              go_wp2_with (first | ((with_reducible refine gate_dst (N := 39) rfl ?_); go_must (refine M.out.ev_bs0 elem_Flock rfl rfl ?_); intro g39 w39 m; simp only [List.cons_append, List.nil_append] at m; have M := Lib.hid m; clear m) | ((with_reducible refine gate_dst (N := 41) rfl ?_); go_must (first | (refine M.out.ev_appends 1 elem_Flock rfl _ _ rfl rfl rfl rfl (M.out.sl HS.out) hA hc (flat_one Flock.ones xs) (by omega) (by decide) ?_) | (refine M.out.ev_appends 2 elem_Flock rfl _ _ rfl rfl rfl rfl (M.out.sl HS.out) hA hc (flat_one Flock.ones xs) (by omega) (by decide) ?_)); intro v41 w41 m; simp only [List.set_cons_succ, List.set_cons_zero, List.nil_append, Nat.zero_add] at m; have M := Lib.hid m; clear m) | ((with_reducible refine gate_dst (N := 45) rfl ?_); go_must (refine ev_ldr _ _ rfl rfl (M.out.argrange R.out) Try.underlying39 rfl (by first | exact sz39 | (rw [S1.out]; exact sz39)) rfl ?_)) | ((with_reducible refine gate_dst (N := 46) rfl ?_); go_must (refine M.out.ev_bs1 elem_Flock rfl _ rfl xs[j].vals.toArray rfl rfl (by decide) ?_); intro g46 w46 m; simp only [List.cons_append, List.nil_append] at m; have M := Lib.hid m; clear m) | ((with_reducible refine gate_dst (N := 47) rfl ?_); go_must (first | (refine M.out.ev_append1 1 2 elem_Flock rfl _ _ rfl rfl rfl rfl rfl rfl (Flock.one _) (by omega) (by decide) ?_) | (refine M.out.ev_append1 2 1 elem_Flock rfl _ _ rfl rfl rfl rfl rfl rfl (Flock.one _) (by omega) (by decide) ?_)); intro v47 w47 m; simp only [List.set_cons_succ, List.set_cons_zero] at m; have M := Lib.hid m; clear m))
              refine onward_normal (hK _ _ ⟨(by first | exact M.out | exact M.out.take 1), ?_⟩)
              clear hK K
              try simp only [Act.put, List.getElem_toArray, List.getElem_cons_succ, List.getElem_cons_zero, List.setIfInBounds_toArray, List.set_cons_succ, List.set_cons_zero]
              refine any1H 2 (by kernel_rfl) rfl (fun K hK => ?_)
              go_wp2_with (first | ((with_reducible refine gate_dst (N := 39) rfl ?_); go_must (refine M.out.ev_bs0 elem_Flock rfl rfl ?_); intro g39 w39 m; simp only [List.cons_append, List.nil_append] at m; have M := Lib.hid m; clear m) | ((with_reducible refine gate_dst (N := 41) rfl ?_); go_must (first | (refine M.out.ev_appends 1 elem_Flock rfl _ _ rfl rfl rfl rfl (M.out.sl HS.out) hA hc (flat_one Flock.ones xs) (by omega) (by decide) ?_) | (refine M.out.ev_appends 2 elem_Flock rfl _ _ rfl rfl rfl rfl (M.out.sl HS.out) hA hc (flat_one Flock.ones xs) (by omega) (by decide) ?_)); intro v41 w41 m; simp only [List.set_cons_succ, List.set_cons_zero, List.nil_append, Nat.zero_add] at m; have M := Lib.hid m; clear m) | ((with_reducible refine gate_dst (N := 45) rfl ?_); go_must (refine ev_ldr _ _ rfl rfl (M.out.argrange R.out) Try.underlying39 rfl (by first | exact sz39 | (rw [S1.out]; exact sz39)) rfl ?_)) | ((with_reducible refine gate_dst (N := 46) rfl ?_); go_must (refine M.out.ev_bs1 elem_Flock rfl _ rfl xs[j].vals.toArray rfl rfl (by decide) ?_); intro g46 w46 m; simp only [List.cons_append, List.nil_append] at m; have M := Lib.hid m; clear m) | ((with_reducible refine gate_dst (N := 47) rfl ?_); go_must (first | (refine M.out.ev_append1 1 2 elem_Flock rfl _ _ rfl rfl rfl rfl rfl rfl (Flock.one _) (by omega) (by decide) ?_) | (refine M.out.ev_append1 2 1 elem_Flock rfl _ _ rfl rfl rfl rfl rfl rfl (Flock.one _) (by omega) (by decide) ?_)); intro v47 w47 m; simp only [List.set_cons_succ, List.set_cons_zero] at m; have M := Lib.hid m; clear m))
              refine onward_normal (hK _ _ ⟨(by first | exact M.out | exact M.out.take 1), ?_⟩)
              clear hK K
              try simp only [Act.put, List.getElem_toArray, List.getElem_cons_succ, List.getElem_cons_zero, List.setIfInBounds_toArray, List.set_cons_succ, List.set_cons_zero]
              refine any1H 8 (by kernel_rfl) rfl (fun K hK => ?_)
              go_wp2_with (first | ((with_reducible refine gate_dst (N := 39) rfl ?_); go_must (refine M.out.ev_bs0 elem_Flock rfl rfl ?_); intro g39 w39 m; simp only [List.cons_append, List.nil_append] at m; have M := Lib.hid m; clear m) | ((with_reducible refine gate_dst (N := 41) rfl ?_); go_must (first | (refine M.out.ev_appends 1 elem_Flock rfl _ _ rfl rfl rfl rfl (M.out.sl HS.out) hA hc (flat_one Flock.ones xs) (by omega) (by decide) ?_) | (refine M.out.ev_appends 2 elem_Flock rfl _ _ rfl rfl rfl rfl (M.out.sl HS.out) hA hc (flat_one Flock.ones xs) (by omega) (by decide) ?_)); intro v41 w41 m; simp only [List.set_cons_succ, List.set_cons_zero, List.nil_append, Nat.zero_add] at m; have M := Lib.hid m; clear m) | ((with_reducible refine gate_dst (N := 45) rfl ?_); go_must (refine ev_ldr _ _ rfl rfl (M.out.argrange R.out) Try.underlying39 rfl (by first | exact sz39 | (rw [S1.out]; exact sz39)) rfl ?_)) | ((with_reducible refine gate_dst (N := 46) rfl ?_); go_must (refine M.out.ev_bs1 elem_Flock rfl _ rfl xs[j].vals.toArray rfl rfl (by decide) ?_); intro g46 w46 m; simp only [List.cons_append, List.nil_append] at m; have M := Lib.hid m; clear m) | ((with_reducible refine gate_dst (N := 47) rfl ?_); go_must (first | (refine M.out.ev_append1 1 2 elem_Flock rfl _ _ rfl rfl rfl rfl rfl rfl (Flock.one _) (by omega) (by decide) ?_) | (refine M.out.ev_append1 2 1 elem_Flock rfl _ _ rfl rfl rfl rfl rfl rfl (Flock.one _) (by omega) (by decide) ?_)); intro v47 w47 m; simp only [List.set_cons_succ, List.set_cons_zero] at m; have M := Lib.hid m; clear m))
              refine onward_normal (hK _ _ ⟨(by first | exact M.out | exact M.out.take 1), ?_⟩)
              clear hK K
              try simp only [Act.put, List.getElem_toArray, List.getElem_cons_succ, List.getElem_cons_zero, List.setIfInBounds_toArray, List.set_cons_succ, List.set_cons_zero]
              apply takeH (i := 9) 11 rfl (by kernel_rfl) (by kernel_rfl) (by kernel_rfl) (fun _ _ _ h => h) rfl (by first | exact M.out | exact M.out.take 1)
              case' hy =>
                refine Or.inl ⟨by first | rfl | (go_simp; done), ?_⟩
                intro w hS
                clear hS
                go_simp
                try with_reducible rfl
              try simp only [Act.put, List.getElem_toArray, List.getElem_cons_succ, List.getElem_cons_zero, List.setIfInBounds_toArray, List.set_cons_succ, List.set_cons_zero]
              refine wpAnyH_done (by kernel_rfl) ?_ _
            rotate_right 1
            case' _ =>
              go_wp2_with (first | ((with_reducible refine gate_dst (N := 39) rfl ?_); go_must (refine M.out.ev_bs0 elem_Flock rfl rfl ?_); intro g39 w39 m; simp only [List.cons_append, List.nil_append] at m; have M := Lib.hid m; clear m) | ((with_reducible refine gate_dst (N := 41) rfl ?_); go_must (first | (refine M.out.ev_appends 1 elem_Flock rfl _ _ rfl rfl rfl rfl (M.out.sl HS.out) hA hc (flat_one Flock.ones xs) (by omega) (by decide) ?_) | (refine M.out.ev_appends 2 elem_Flock rfl _ _ rfl rfl rfl rfl (M.out.sl HS.out) hA hc (flat_one Flock.ones xs) (by omega) (by decide) ?_)); intro v41 w41 m; simp only [List.set_cons_succ, List.set_cons_zero, List.nil_append, Nat.zero_add] at m; have M := Lib.hid m; clear m) | ((with_reducible refine gate_dst (N := 45) rfl ?_); go_must (refine ev_ldr _ _ rfl rfl (M.out.argrange R.out) Try.underlying39 rfl (by first | exact sz39 | (rw [S1.out]; exact sz39)) rfl ?_)) | ((with_reducible refine gate_dst (N := 46) rfl ?_); go_must (refine M.out.ev_bs1 elem_Flock rfl _ rfl xs[j].vals.toArray rfl rfl (by decide) ?_); intro g46 w46 m; simp only [List.cons_append, List.nil_append] at m; have M := Lib.hid m; clear m) | ((with_reducible refine gate_dst (N := 47) rfl ?_); go_must (first | (refine M.out.ev_append1 1 2 elem_Flock rfl _ _ rfl rfl rfl rfl rfl rfl (Flock.one _) (by omega) (by decide) ?_) | (refine M.out.ev_append1 2 1 elem_Flock rfl _ _ rfl rfl rfl rfl rfl rfl (Flock.one _) (by omega) (by decide) ?_)); intro v47 w47 m; simp only [List.set_cons_succ, List.set_cons_zero] at m; have M := Lib.hid m; clear m))
              refine onward_normal (hK _ _ ⟨(by first | exact M.out | exact M.out.take 1), ?_⟩)
              clear hK K
              try simp only [Act.put, List.getElem_toArray, List.getElem_cons_succ, List.getElem_cons_zero, List.setIfInBounds_toArray, List.set_cons_succ, List.set_cons_zero]
              refine any1H 7 (by kernel_rfl) rfl (fun K hK => ?_)
              go_wp2_with (first | ((with_reducible refine gate_dst (N := 39) rfl ?_); go_must (refine M.out.ev_bs0 elem_Flock rfl rfl ?_); intro g39 w39 m; simp only [List.cons_append, List.nil_append] at m; have M := Lib.hid m; clear m) | ((with_reducible refine gate_dst (N := 41) rfl ?_); go_must (first | (refine M.out.ev_appends 1 elem_Flock rfl _ _ rfl rfl rfl rfl (M.out.sl HS.out) hA hc (flat_one Flock.ones xs) (by omega) (by decide) ?_) | (refine M.out.ev_appends 2 elem_Flock rfl _ _ rfl rfl rfl rfl (M.out.sl HS.out) hA hc (flat_one Flock.ones xs) (by omega) (by decide) ?_)); intro v41 w41 m; simp only [List.set_cons_succ, List.set_cons_zero, List.nil_append, Nat.zero_add] at m; have M := Lib.hid m; clear m) | ((with_reducible refine gate_dst (N := 45) rfl ?_); go_must (refine ev_ldr _ _ rfl rfl (M.out.argrange R.out) Try.underlying39 rfl (by first | exact sz39 | (rw [S1.out]; exact sz39)) rfl ?_)) | ((with_reducible refine gate_dst (N := 46) rfl ?_); go_must (refine M.out.ev_bs1 elem_Flock rfl _ rfl xs[j].vals.toArray rfl rfl (by decide) ?_); intro g46 w46 m; simp only [List.cons_append, List.nil_append] at m; have M := Lib.hid m; clear m) | ((with_reducible refine gate_dst (N := 47) rfl ?_); go_must (first | (refine M.out.ev_append1 1 2 elem_Flock rfl _ _ rfl rfl rfl rfl rfl rfl (Flock.one _) (by omega) (by decide) ?_) | (refine M.out.ev_append1 2 1 elem_Flock rfl _ _ rfl rfl rfl rfl rfl rfl (Flock.one _) (by omega) (by decide) ?_)); intro v47 w47 m; simp only [List.set_cons_succ, List.set_cons_zero] at m; have M := Lib.hid m; clear m))
              refine onward_normal (hK _ _ ⟨(by first | exact M.out | exact M.out.take 1), ?_⟩)
              clear hK K
              try simp only [Act.put, List.getElem_toArray, List.getElem_cons_succ, List.getElem_cons_zero, List.setIfInBounds_toArray, List.set_cons_succ, List.set_cons_zero]
              refine any1H 8 (by kernel_rfl) rfl (fun K hK => ?_)
              go_wp2_with (first | ((with_reducible refine gate_dst (N := 39) rfl ?_); go_must (refine M.out.ev_bs0 elem_Flock rfl rfl ?_); intro g39 w39 m; simp only [List.cons_append, List.nil_append] at m; have M := Lib.hid m; clear m) | ((with_reducible refine gate_dst (N := 41) rfl ?_); go_must (first | (refine M.out.ev_appends 1 elem_Flock rfl _ _ rfl rfl rfl rfl (M.out.sl HS.out) hA hc (flat_one Flock.ones xs) (by omega) (by decide) ?_) | (refine M.out.ev_appends 2 elem_Flock rfl _ _ rfl rfl rfl rfl (M.out.sl HS.out) hA hc (flat_one Flock.ones xs) (by omega) (by decide) ?_)); intro v41 w41 m; simp only [List.set_cons_succ, List.set_cons_zero, List.nil_append, Nat.zero_add] at m; have M := Lib.hid m; clear m) | ((with_reducible refine gate_dst (N := 45) rfl ?_); go_must (refine ev_ldr _ _ rfl rfl (M.out.argrange R.out) Try.underlying39 rfl (by first | exact sz39 | (rw [S1.out]; exact sz39)) rfl ?_)) | ((with_reducible refine gate_dst (N := 46) rfl ?_); go_must (refine M.out.ev_bs1 elem_Flock rfl _ rfl xs[j].vals.toArray rfl rfl (by decide) ?_); intro g46 w46 m; simp only [List.cons_append, List.nil_append] at m; have M := Lib.hid m; clear m) | ((with_reducible refine gate_dst (N := 47) rfl ?_); go_must (first | (refine M.out.ev_append1 1 2 elem_Flock rfl _ _ rfl rfl rfl rfl rfl rfl (Flock.one _) (by omega) (by decide) ?_) | (refine M.out.ev_append1 2 1 elem_Flock rfl _ _ rfl rfl rfl rfl rfl rfl (Flock.one _) (by omega) (by decide) ?_)); intro v47 w47 m; simp only [List.set_cons_succ, List.set_cons_zero] at m; have M := Lib.hid m; clear m))
              refine onward_normal (hK _ _ ⟨(by first | exact M.out | exact M.out.take 1), ?_⟩)
              clear hK K
              try simp only [Act.put, List.getElem_toArray, List.getElem_cons_succ, List.getElem_cons_zero, List.setIfInBounds_toArray, List.set_cons_succ, List.set_cons_zero]
              apply takeH (i := 9) 11 rfl (by kernel_rfl) (by kernel_rfl) (by kernel_rfl) (fun _ _ _ h => h) rfl (by first | exact M.out | exact M.out.take 1)
              case' hy =>
                refine Or.inl ⟨by first | rfl | (go_simp; done), ?_⟩
                intro w hS
                clear hS
                go_simp
                try with_reducible rfl
              try simp only [Act.put, List.getElem_toArray, List.getElem_cons_succ, List.getElem_cons_zero, List.setIfInBounds_toArray, List.set_cons_succ, List.set_cons_zero]
              refine wpAnyH_done (by kernel_rfl) ?_ _
          rotate_right 1
          case' _ =>
            go_wp2_with (first | ((with_reducible refine gate_dst (N := 39) rfl ?_); go_must (refine M.out.ev_bs0 elem_Flock rfl rfl ?_); intro g39 w39 m; simp only [List.cons_append, List.nil_append] at m; have M := Lib.hid m; clear m) | ((with_reducible refine gate_dst (N := 41) rfl ?_); go_must (first | (refine M.out.ev_appends 1 elem_Flock rfl _ _ rfl rfl rfl rfl (M.out.sl HS.out) hA hc (flat_one Flock.ones xs) (by omega) (by decide) ?_) | (refine M.out.ev_appends 2 elem_Flock rfl _ _ rfl rfl rfl rfl (M.out.sl HS.out) hA hc (flat_one Flock.ones xs) (by omega) (by decide) ?_)); intro v41 w41 m; simp only [List.set_cons_succ, List.set_cons_zero, List.nil_append, Nat.zero_add] at m; have M := Lib.hid m; clear m) | ((with_reducible refine gate_dst (N := 45) rfl ?_); go_must (refine ev_ldr _ _ rfl rfl (M.out.argrange R.out) Try.underlying39 rfl (by first | exact sz39 | (rw [S1.out]; exact sz39)) rfl ?_)) | ((with_reducible refine gate_dst (N := 46) rfl ?_); go_must (refine M.out.ev_bs1 elem_Flock rfl _ rfl xs[j].vals.toArray rfl rfl (by decide) ?_); intro g46 w46 m; simp only [List.cons_append, List.nil_append] at m; have M := Lib.hid m; clear m) | ((with_reducible refine gate_dst (N := 47) rfl ?_); go_must (first | (refine M.out.ev_append1 1 2 elem_Flock rfl _ _ rfl rfl rfl rfl rfl rfl (Flock.one _) (by omega) (by decide) ?_) | (refine M.out.ev_append1 2 1 elem_Flock rfl _ _ rfl rfl rfl rfl rfl rfl (Flock.one _) (by omega) (by decide) ?_)); intro v47 w47 m; simp only [List.set_cons_succ, List.set_cons_zero] at m; have M := Lib.hid m; clear m))
            refine onward_normal (hK _ _ ⟨(by first | exact M.out | exact M.out.take 1), ?_⟩)
            clear hK K
            try simp only [Act.put, List.getElem_toArray, List.getElem_cons_succ, List.getElem_cons_zero, List.setIfInBounds_toArray, List.set_cons_succ, List.set_cons_zero]
            refine any1H 6 (by kernel_rfl) rfl (fun K hK => ?_)
            go_wp2_with (first | ((with_reducible refine gate_dst (N := 39) rfl ?_); go_must (refine M.out.ev_bs0 elem_Flock rfl rfl ?_); intro g39 w39 m; simp only [List.cons_append, List.nil_append] at m; have M := Lib.hid m; clear m) | ((with_reducible refine gate_dst (N := 41) rfl ?_); go_must (first | (refine M.out.ev_appends 1 elem_Flock rfl _ _ rfl rfl rfl rfl (M.out.sl HS.out) hA hc (flat_one Flock.ones xs) (by omega) (by decide) ?_) | (refine M.out.ev_appends 2 elem_Flock rfl _ _ rfl rfl rfl rfl (M.out.sl HS.out) hA hc (flat_one Flock.ones xs) (by omega) (by decide) ?_)); intro v41 w41 m; simp only [List.set_cons_succ, List.set_cons_zero, List.nil_append, Nat.zero_add] at m; have M := Lib.hid m; clear m) | ((with_reducible refine gate_dst (N := 45) rfl ?_); go_must (refine ev_ldr _ _ rfl rfl (M.out.argrange R.out) Try.underlying39 rfl (by first | exact sz39 | (rw [S1.out]; exact sz39)) rfl ?_)) | ((with_reducible refine gate_dst (N := 46) rfl ?_); go_must (refine M.out.ev_bs1 elem_Flock rfl _ rfl xs[j].vals.toArray rfl rfl (by decide) ?_); intro g46 w46 m; simp only [List.cons_append, List.nil_append] at m; have M := Lib.hid m; clear m) | ((with_reducible refine gate_dst (N := 47) rfl ?_); go_must (first | (refine M.out.ev_append1 1 2 elem_Flock rfl _ _ rfl rfl rfl rfl rfl rfl (Flock.one _) (by omega) (by decide) ?_) | (refine M.out.ev_append1 2 1 elem_Flock rfl _ _ rfl rfl rfl rfl rfl rfl (Flock.one _) (by omega) (by decide) ?_)); intro v47 w47 m; simp only [List.set_cons_succ, List.set_cons_zero] at m; have M := Lib.hid m; clear m))
            refine onward_normal (hK _ _ ⟨(by first | exact M.out | exact M.out.take 1), ?_⟩)
            clear hK K
            try simp only [Act.put, List.getElem_toArray, List.getElem_cons_succ, List.getElem_cons_zero, List.setIfInBounds_toArray, List.set_cons_succ, List.set_cons_zero]
            refine any1H 7 (by kernel_rfl) rfl (fun K hK => ?_)
            go_wp2_with (first | ((with_reducible refine gate_dst (N := 39) rfl ?_); go_must (refine M.out.ev_bs0 elem_Flock rfl rfl ?_); intro g39 w39 m; simp only [List.cons_append, List.nil_append] at m; have M := Lib.hid m; clear m) | ((with_reducible refine gate_dst (N := 41) rfl ?_); go_must (first | (refine M.out.ev_appends 1 elem_Flock rfl _ _ rfl rfl rfl rfl (M.out.sl HS.out) hA hc (flat_one Flock.ones xs) (by omega) (by decide) ?_) | (refine M.out.ev_appends 2 elem_Flock rfl _ _ rfl rfl rfl rfl (M.out.sl HS.out) hA hc (flat_one Flock.ones xs) (by omega) (by decide) ?_)); intro v41 w41 m; simp only [List.set_cons_succ, List.set_cons_zero, List.nil_append, Nat.zero_add] at m; have M := Lib.hid m; clear m) | ((with_reducible refine gate_dst (N := 45) rfl ?_); go_must (refine ev_ldr _ _ rfl rfl (M.out.argrange R.out) Try.underlying39 rfl (by first | exact sz39 | (rw [S1.out]; exact sz39)) rfl ?_)) | ((with_reducible refine gate_dst (N := 46) rfl ?_); go_must (refine M.out.ev_bs1 elem_Flock rfl _ rfl xs[j].vals.toArray rfl rfl (by decide) ?_); intro g46 w46 m; simp only [List.cons_append, List.nil_append] at m; have M := Lib.hid m; clear m) | ((with_reducible refine gate_dst (N := 47) rfl ?_); go_must (first | (refine M.out.ev_append1 1 2 elem_Flock rfl _ _ rfl rfl rfl rfl rfl rfl (Flock.one _) (by omega) (by decide) ?_) | (refine M.out.ev_append1 2 1 elem_Flock rfl _ _ rfl rfl rfl rfl rfl rfl (Flock.one _) (by omega) (by decide) ?_)); intro v47 w47 m; simp only [List.set_cons_succ, List.set_cons_zero] at m; have M := Lib.hid m; clear m))
            refine onward_normal (hK _ _ ⟨(by first | exact M.out | exact M.out.take 1), ?_⟩)
            clear hK K
            try simp only [Act.put, List.getElem_toArray, List.getElem_cons_succ, List.getElem_cons_zero, List.setIfInBounds_toArray, List.set_cons_succ, List.set_cons_zero]
            refine any1H 8 (by kernel_rfl) rfl (fun K hK => ?_)
            go_wp2_with (first | ((with_reducible refine gate_dst (N := 39) rfl ?_); go_must (refine M.out.ev_bs0 elem_Flock rfl rfl ?_); intro g39 w39 m; simp only [List.cons_append, List.nil_append] at m; have M := Lib.hid m; clear m) | ((with_reducible refine gate_dst (N := 41) rfl ?_); go_must (first | (refine M.out.ev_appends 1 elem_Flock rfl _ _ rfl rfl rfl rfl (M.out.sl HS.out) hA hc (flat_one Flock.ones xs) (by omega) (by decide) ?_) | (refine M.out.ev_appends 2 elem_Flock rfl _ _ rfl rfl rfl rfl (M.out.sl HS.out) hA hc (flat_one Flock.ones xs) (by omega) (by decide) ?_)); intro v41 w41 m; simp only [List.set_cons_succ, List.set_cons_zero, List.nil_append, Nat.zero_add] at m; have M := Lib.hid m; clear m) | ((with_reducible refine gate_dst (N := 45) rfl ?_); go_must (refine ev_ldr _ _ rfl rfl (M.out.argrange R.out) Try.underlying39 rfl (by first | exact sz39 | (rw [S1.out]; exact sz39)) rfl ?_)) | ((with_reducible refine gate_dst (N := 46) rfl ?_); go_must (refine M.out.ev_bs1 elem_Flock rfl _ rfl xs[j].vals.toArray rfl rfl (by decide) ?_); intro g46 w46 m; simp only [List.cons_append, List.nil_append] at m; have M := Lib.hid m; clear m) | ((with_reducible refine gate_dst (N := 47) rfl ?_); go_must (first | (refine M.out.ev_append1 1 2 elem_Flock rfl _ _ rfl rfl rfl rfl rfl rfl (Flock.one _) (by omega) (by decide) ?_) | (refine M.out.ev_append1 2 1 elem_Flock rfl _ _ rfl rfl rfl rfl rfl rfl (Flock.one _) (by omega) (by decide) ?_)); intro v47 w47 m; simp only [List.set_cons_succ, List.set_cons_zero] at m; have M := Lib.hid m; clear m))
            refine onward_normal (hK _ _ ⟨(by first | exact M.out | exact M.out.take 1), ?_⟩)
            clear hK K
            try simp only [Act.put, List.getElem_toArray, List.getElem_cons_succ, List.getElem_cons_zero, List.setIfInBounds_toArray, List.set_cons_succ, List.set_cons_zero]
            apply takeH (i := 9) 11 rfl (by kernel_rfl) (by kernel_rfl) (by kernel_rfl) (fun _ _ _ h => h) rfl (by first | exact M.out | exact M.out.take 1)
            case' hy =>
              refine Or.inl ⟨by first | rfl | (go_simp; done), ?_⟩
              intro w hS
              clear hS
              go_simp
              try with_reducible rfl
            try simp only [Act.put, List.getElem_toArray, List.getElem_cons_succ, List.getElem_cons_zero, List.setIfInBounds_toArray, List.set_cons_succ, List.set_cons_zero]
            refine wpAnyH_done (by kernel_rfl) ?_ _
        all_goals
          first
            | have m := M.out.only [0, 1] (K := [.blk _ _ _, .row _ 39 6 (xs.length + 1) _]) rfl (by decide)
            | have m := M.out.only [0, 2] (K := [.blk _ _ _, .row _ 39 6 (xs.length + 1) _]) rfl (by decide)
          obtain ⟨g_, cap_, rfl, hcap⟩ := m.row_form 1 rfl (by omega)
          clear M
          have M := Lib.hid m
          clear m
          have HLL := Lib.hid (show (flat Flock.vals xs ++ xs[j].vals).length = xs.length * 6 + 6 by rw [List.length_append, HL.out]; rfl)
          have hat := M.out.row_cell 1 rfl (show (flat Flock.vals xs ++ xs[j].vals)[j * 6 + 1]? = some (.int .i16 xs[j].birds) by
            rw [← flat_snoc]
            exact flat_at Flock.vl (by rw [List.getElem?_append_left hj]; exact List.getElem?_eq_getElem hj) rfl)
          go_wp2_with (first
            | ((with_reducible refine gate_store (x := .tmp 57) rfl ?_); go_must (refine M.out.ev_rput1 1 _ _ _ rfl rfl rfl rfl (.int .i16 (xs[j].birds - b)) rfl (by rw [HLL.out]; omega) sz24 rfl rfl ?_); intro wn m; simp only [List.set_cons_succ, List.set_cons_zero] at m; have M := Lib.hid m; clear m)
            | ((with_reducible refine gate_store (x := .tmp 64) rfl ?_); go_must (refine M.out.ev_rput1 1 _ _ _ rfl rfl rfl rfl (.int .i16 b) rfl (by rw [List.length_set, HLL.out]; omega) sz24 rfl rfl ?_); intro wn m; simp only [List.set_cons_succ, List.set_cons_zero] at m; have M := Lib.hid m; clear m)
            )
          go_ret2
          have m := M.out.only [1] (K := [.row _ 39 6 (xs.length + 1) _]) rfl (by decide)
          rw [sp_flat hj b] at m
          have hrl : (spAt xs j b).length = xs.length + 1 := by rw [← sp_list hj]; simp
          rw [spRes, HAC.out, if_pos rfl, Int.toNat_natCast, hrl]
          exact ⟨_, _, rfl, hcap, m⟩
  · have HD := Lib.hid hd
    have hdd : (flCode F xs i true == 0) = false := by simp [hd]
    have hde : (flCode F xs i true != 0) = true := by simp [hd]
    have HFF := Lib.hid (flCode_f hd (spFine xs i b))
    have HAC := Lib.hid (show spCode F xs i b = flCode F xs i true by rw [spCode, HFF.out, if_pos hd])
    clear hd
    go_enter Try.func40, Try.ntmps40
    go_wp2_with (first
      | ((with_reducible refine gate_dst (N := 4) rfl ?_); go_must (refine M.out.ev_new rfl (by first | (go_simp; done) | (go_simp; rfl)) ?_); intro g4 w4 m; simp only [List.cons_append, List.nil_append] at m; have M := Lib.hid m; clear m)
      | (go_at_call 82; go_must (refine (l02Index_any _ F HF.out A n xs HX.out hl i _ (M.out.blk 0 rfl) (M.out.sl HS.out)).mono ?_); rintro e w_ ⟨rfl, rfl⟩)
      | ((with_reducible refine gate_dst (N := 37) rfl ?_); go_must (refine M.out.ev_bs0 elem_Flock rfl rfl ?_); intro g37 w37 m; simp only [List.cons_append, List.nil_append] at m; have M := Lib.hid m; clear m)
      )
    go_ret2
    have m := M.out.only [1] (K := [_]) rfl (by decide)
    rw [spRes, HAC.out, if_neg HD.out]
    exact ⟨_, 0, rfl, Nat.le_refl _, m⟩
set_option maxRecDepth 100000 in
set_option maxHeartbeats 4000000 in
theorem lawSplitFlock_any (F : Fld) (hF : F.ok) (A : Option Addr) (n : Nat) (xs : List Flock) (hx : ∀ x ∈ xs, x.ok) (hm : xs.length ≤ 9223372036854775807) (i : Int) (b : Int) (w : World) (hs : Sl w 6 A xs.length (flat Flock.vals xs)) :
    Calls Try.prog 7 #[.agg F.cells, .slice A xs.length n, .int .i64 i, .int .i64 b] w fun e w' => e = .returned (.bool true) ∧ Mem w w' [] := by
  have M := Lib.hid (Mem.start w)
  have HX := Lib.hid hx
  have HS := Lib.hid hs
  have S1 := Lib.hid (Fld.size hF.toLen)
  clear hx hs
  by_cases hl : xs.length ≤ 1048576
  · have hz : ¬ ((1048576 : Int) < xs.length) := by omega
    have hz2 : ¬ ((1048576 : Int) - xs.length < 0) := by omega
    have hr := SplitFlock_small F xs i b hl
    have hk1 : ¬ (1 + 6 * (xs.length : Int) < 0) := by omega
    have hk2 : ¬ (1 + 6 * ((spRes F xs i b).length : Int) < 0) := by omega
    obtain ⟨R, hR⟩ : ∃ R, R = spRes F xs i b := ⟨_, rfl⟩
    have IM := Lib.hid (fun A n hc hn hA w hs => impl_SplitFlock_any F hF A n xs HX.out hl hc hn hA i b w hs)
    have SP := Lib.hid (fun A n hc hn hA w hs => spec_SplitFlock_any F hF A n xs HX.out hl hc hn hA i b w hs)
    rw [← hR] at IM SP hr hk2
    clear hR
    go_enter Try.func7, Try.ntmps7
    go_wp2_with (first
      | ((with_reducible refine gate_dst (N := 4) rfl ?_); go_must (refine M.out.ev_new rfl (by first | (go_simp; done) | (go_simp; rfl)) ?_); intro g4 w4 m; simp only [List.cons_append, List.nil_append] at m; have M := Lib.hid m; clear m)
      | ((with_reducible refine gate_dst (N := 26) rfl ?_); go_must (refine M.out.ev_ldw 0 _ _ rfl rfl rfl Try.underlying27 rfl (by first | exact sz27 | (rw [S1.out]; exact sz27) | (rw [S2.out]; exact sz27) | (rw [S3.out]; exact sz27)) rfl ?_))
      | ((with_reducible refine gate_dst (N := 38) rfl ?_); go_must (refine M.out.ev_ldw 0 _ _ rfl rfl rfl Try.underlying27 rfl (by first | exact sz27 | (rw [S1.out]; exact sz27) | (rw [S2.out]; exact sz27) | (rw [S3.out]; exact sz27)) rfl ?_))
      | ((with_reducible refine gate_dst (N := 88) rfl ?_); go_must (refine M.out.ev_ldw 0 _ _ rfl rfl rfl Try.underlying27 rfl (by first | exact sz27 | (rw [S1.out]; exact sz27) | (rw [S2.out]; exact sz27) | (rw [S3.out]; exact sz27)) rfl ?_))
      | (go_at_call 33; go_must (refine (szFlockS_any A xs.length n 1048576 _ (by omega) (by omega) hm).mono ?_); rintro e w_ ⟨rfl, rfl⟩; rw [if_neg hz])
      | (go_at_call 16; go_must (refine (toField_any F hF.toLen _).mono ?_); rintro e w_ ⟨rfl, hB_⟩; have M := Lib.hid (M.out.kept hB_); clear hB_)
      | (go_at_call 35; go_must (refine (toFlockS_any A n xs _ hl (M.out.sl HS.out)).mono ?_); rintro e w_ ⟨A_, c_, rfl, hc_, N_⟩; have m := M.out.join N_; clear N_; simp only [List.cons_append, List.nil_append, List.append_nil] at m; have M := Lib.hid m; clear m)
      | (go_at_call 40; go_must (refine (SP.out _ _ hc_ (M.out.row_cap 1 rfl) (M.out.row_none 1 rfl) _ (M.out.slof 1 rfl)).mono ?_); rintro e w_ ⟨A_, c_, rfl, hc_, N_⟩; have m := M.out.join N_; clear N_; simp only [List.cons_append, List.nil_append, List.append_nil] at m; have M := Lib.hid m; clear m)
      | (go_at_call 41; go_must (first | (refine Calls.mono (calls_args (by with_reducible rfl) (IM.out _ _ hc_ (M.out.row_cap 3 rfl) (M.out.row_none 3 rfl) _ (M.out.slof 3 rfl))) ?_) | (refine Calls.mono (calls_args (by with_reducible rfl) (IM.out _ _ hc_ (M.out.row_cap 6 rfl) (M.out.row_none 6 rfl) _ (M.out.slof 6 rfl))) ?_)); rintro e w_ ⟨A_, c_, rfl, hc_, N_⟩; have m := M.out.join N_; clear N_; simp only [List.cons_append, List.nil_append, List.append_nil] at m; have M := Lib.hid m; clear m)
      | (go_at_call 37; go_must (first | (refine Calls.mono (calls_args (by with_reducible rfl) (eqFlockS_any _ _ _ _ R R _ hr (M.out.slof 4 rfl) (M.out.slof 2 rfl))) ?_) | (refine Calls.mono (calls_args (by with_reducible rfl) (eqFlockS_any _ _ _ _ xs xs _ hl (M.out.slof 3 rfl) (M.out.slof 5 rfl))) ?_) | (refine Calls.mono (calls_args (by with_reducible rfl) (eqFlockS_any _ _ _ _ R R _ hr (M.out.slof 7 rfl) (M.out.slof 2 rfl))) ?_)); rintro e w_ ⟨rfl, N_⟩; have m := M.out.join N_; clear N_; simp only [List.cons_append, List.nil_append, List.append_nil] at m; have M := Lib.hid m; clear m; rw [decide_eq_true rfl])
      | (go_at_call 38; go_must (first | (refine Calls.mono (calls_args (by with_reducible rfl) (markFlock_any 3 M.out _ _ xs rfl hl)) ?_) | (refine Calls.mono (calls_args (by with_reducible rfl) (markFlock_any 4 M.out _ _ R rfl hr)) ?_)); rintro e w_ ⟨rfl, m⟩; simp only [List.set_cons_succ, List.set_cons_zero] at m; have M := Lib.hid m; clear m)
      | (go_at_call 39; go_must (refine (heldFlock_any _ _ R.length hr _ (M.out.slof 4 rfl)).mono ?_); rintro e w_ ⟨rfl, rfl⟩))
    go_ret
    exact ⟨ret_bool rfl, M.out.take 0⟩
  · have hz : (1048576 : Int) < xs.length := by omega
    go_enter Try.func7, Try.ntmps7
    go_wp2_with (first
      | ((with_reducible refine gate_dst (N := 4) rfl ?_); go_must (refine M.out.ev_new rfl (by first | (go_simp; done) | (go_simp; rfl)) ?_); intro g4 w4 m; simp only [List.cons_append, List.nil_append] at m; have M := Lib.hid m; clear m)
      | ((with_reducible refine gate_dst (N := 26) rfl ?_); go_must (refine M.out.ev_ldw 0 _ _ rfl rfl rfl Try.underlying27 rfl (by first | exact sz27 | (rw [S1.out]; exact sz27) | (rw [S2.out]; exact sz27) | (rw [S3.out]; exact sz27)) rfl ?_))
      | ((with_reducible refine gate_dst (N := 38) rfl ?_); go_must (refine M.out.ev_ldw 0 _ _ rfl rfl rfl Try.underlying27 rfl (by first | exact sz27 | (rw [S1.out]; exact sz27) | (rw [S2.out]; exact sz27) | (rw [S3.out]; exact sz27)) rfl ?_))
      | ((with_reducible refine gate_dst (N := 88) rfl ?_); go_must (refine M.out.ev_ldw 0 _ _ rfl rfl rfl Try.underlying27 rfl (by first | exact sz27 | (rw [S1.out]; exact sz27) | (rw [S2.out]; exact sz27) | (rw [S3.out]; exact sz27)) rfl ?_))
      | (go_at_call 33; go_must (refine (szFlockS_any A xs.length n 1048576 _ (by omega) (by omega) hm).mono ?_); rintro e w_ ⟨rfl, rfl⟩; rw [if_pos hz]))
    go_ret
    exact ⟨ret_bool rfl, M.out.take 0⟩
end Go.Proofs.Ytbjcajhbhicokaa
